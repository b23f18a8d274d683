/- Part. -/
import Derived.Test.YtgfbifafbkkghaaGreatDoorJ9
import Derived.Lib.Overlaps
namespace Go.Proofs.YtgfbifafbkkghaaGreatDoor
set_option linter.all false
set_option maxRecDepth 100000
open Go.RowKit Go.Proofs.Tryz
def xxy:=@underlying160
def uu0:=@List.all_eq_false
def uus:=@underlying330
def vvy:=@run_equalIn_int
def yyr:=@List.length_eq_zero_iff
def uua:=@List.flatten_singleton
def vvw:=@List.flatMap_append
def uul:=@Int.toNat_of_nonneg
def xxc:=@Bool.eq_false_iff
def ww1:=@Decidable.of_not_not
def jf(b:Nat)(cs:Ξ)(t:Ι):zw:=λh=>h=aX.one b (.cells cs.toArray t (0,0))
section
variable {W w:Ζ} {l l':Β} {P:Program}
def jf.mO{b:Nat}{cs:Ξ}{t:Ι}(h:SL W l w)(m:Has (.ob (jf b cs t)) l):w.heap[b]?=some (.cells cs.toArray t (0,0)):=by
 obtain⟨k,s,x⟩:=h.out;obtain⟨h1,e,le⟩:=m.heap s;have e:h1=aX.one b (.cells cs.toArray t (0,0)):=e;subst e;exact x b _ (le b _ (by simp[aX.one]))
def jf.cell{b o:Nat}{cs:Ξ}{t:Ι}{v:Ε}(h:SL W l w)(m:Has (.ob (jf b cs t)) l)(hv:cs[o]?=some v):w.cell? ⟨b,o,none⟩=some v:=by
 simp[World.cell?,jf.mO h m,hv]
def aii{z cells:Ξ}{ps:List (Nat × Nat × Ε)}{e:Ι}{n:Nat}{K:Ε->Ζ->Prop}(hS:SL W l w)(hc:eV z ps=some cells)
  (h:∀b w',SL W (.ob (jf b cells e)::l) w'->K (.slice (some ⟨b,0,none⟩) n n) w'):zk z ps e n w K:=⟨cells,hc,h _ _ (hS.alloc (c:=.ob (jf w.heap.size cells e)) rfl)⟩
def Ys{dT sT ty elem tt:Ι}{b o BY JA m D9 NX sz:Nat}{a:Addr}{cs cd:Ξ}{K:Ε->Ζ->Prop}(hS:SL W l w)(hu:P.underlying dT=some (.slice elem))(hs:(P.info? elem).map (·.size)=some sz)
  (hm:Nat.min D9 BY=m) (hl:cs.length=m*sz) (gb:∀j v,cs[j]?=some v->w.cell? (a.add j)=some v) (u:dX (.pt b cd tt) (.pt b (cd.take o++cs++cd.drop (o+cs.length)) tt) l l') (ho:o+cs.length<=cd.length) (h1:∀v∈cs,v.oneCell'=true)
  (h:∀v w',SL W l' w'->K v w'):zR P (Builtin.copy_ #[dT,sT] ty #[.slice (some ⟨b,o,none⟩) BY JA,.slice (some a) D9 NX]) w K:=by
 have rQ:=wwp (P:=P) w a cs gb;have ie:∀j,j<cs.length->∃v,cd[o+j]?=some v:=λj hj=>⟨_,zzc (by omega)⟩;have gd:=run_storeCells_cells (P:=P) b o cs 0 w (λj hj=>by obtain⟨v,hv⟩:=ie j hj;rw[wwd,hS.cell u.has hv];rfl) (λj hj=>by obtain⟨v,hv⟩:=ie j hj;rw[wwd];exact hS.frozen u.has hv) h1;simp only[wwd]at gd;have hr:(Builtin.copy_ #[dT,sT] ty #[.slice (some ⟨b,o,none⟩) BY JA,.slice (some a) D9 NX]).run P w= .ok (goInt m) (w.setCells b o cs):=by
  cases hq:P.info? elem with
  | none=>simp[hq]at hs
  | some i=>
   have hi:i.size=sz:=by simpa [hq] using hs
   simp[Builtin.copy_,zzu hu,Builtin.lenOf,Builtin.firstCells,sizeOf,typeInfo,hq,hi,hm,<- hl,rQ,gd]
 exact⟨_,_,hr,h _ _ (SL.OA hS u ho)⟩
def aij{ty t e:Ι}{a:Option Addr}{n c:Nat}{K:Ε->Prop}(ht:P.underlying t=some (.slice e))(h:K (Γ c)):dC P (Builtin.cap_ #[t] ty #[.slice a n c]) w K:=
 ⟨_,by simp[Builtin.cap_,zzu ht,goInt],h⟩
end
def Tryz.Vo:(prog.info? 213).map (λi=>(i.zero.map (λz=>z.cells.toList),i.size,i.bytes))=some (some [Γ 0,.string ⟨#[]⟩],2,24):=by kernel_rfl
def Tryz.bax:(prog.info? 213).map (λi=>i.zero)=some (some (.agg #[Γ 0,.string ⟨#[]⟩])):=by kernel_rfl
def awx(w:Ζ):(sizeOf 213).run prog w= .ok 2 w:=by kernel_rfl
def QL{W w:Ζ}{l:Β}{vb b o m vc lb cb:Nat}{cv cs:Ξ}{K:Ε->Ζ->Prop}(hS:SL W l w)(h1:Has (.ob (jf vb cv 213)) l)(h2:Has (.pt b cs 213) l)(d_:vb≠b)(j2:cs.length≠0)
  (h:K (.bool false) w):wE prog 350 [.slice (some ⟨vb,0,none⟩) m vc,.slice (some ⟨b,o,none⟩) lb cb] w K:=by
 have e1:=jf.mO hS h1;obtain⟨f,hf,e2⟩:=hS.mO h2;have UF:w.shape? vb=some (213,cv.length):=by simp[World.shape?,e1]
 have UG:w.shape? b=some (213,cs.length):=by simp[World.shape?,e2]
 have hz:∀x:Addr,x.block=vb->w.frozen? x=false:=λx hx=>by simp only[World.frozen?,hx,e1];simp
 have hr:=Go.Lib.run_overlaps_apart (P:=prog) w 160 4 213 xxy 2 awx ⟨vb,0,none⟩ ⟨b,o,none⟩ m vc lb cb d_ 213 213 cv.length cs.length UF UG j2 (hz _ rfl) (hz _ rfl);refine⟨.bool false,w,?_,h⟩;have:=run_callFunc_extern func350 (by kernel_rfl) (by kernel_rfl) (by kernel_rfl) (e:=Extern.SlicesOverlaps.overlaps #[160,160] #[4]) (by kernel_rfl) #[.slice (some ⟨vb,0,none⟩) m vc,.slice (some ⟨b,o,none⟩) lb cb] w;rw[this,hr];rfl
def jf.ne{W w:Ζ}{l:Β}{b vb:Nat}{cs cv:Ξ}{t t':Ι}(h:SL W (.pt b cs t::.ob (jf vb cv t')::l) w):vb≠b:=by
 rintro rfl;obtain⟨k,⟨h1,h2,s,⟨f,_,rfl⟩,h3,h4,s',e,r⟩,m⟩:=h.out;have e:h3=aX.one vb (.cells cv.toArray t' (0,0)):=e;subst e;rcases s vb with ⟨a,_⟩|⟨a,_⟩
 ·simp[aX.one]at a
 rcases s' vb with ⟨c,_⟩|⟨_,c⟩
 ·simp[aX.one]at c
 rw[a]at c;simp[aX.one]at c
def D3(A E x:Ξ):(A++E).take A.length++x++(A++E).drop (A.length+x.length)=A++x++E.drop x.length:=by
 rw[uuq,<- wws,ww9]
def XY(A E D:Ξ)(k:Nat)(hk:k<=E.length):(A++E).take (A.length+k)++D++(A++E).drop (A.length+k+D.length)=A++(E.take k++D++E.drop (k+D.length)):=by
 rw[yy2,ww3,<- wws (l:=A++E),ww9];simp
def YN(v:Ε)(n i vb:Nat)(cells x:Ξ)(hi:i<=n)(hx:x.length=2)(gW:∀v∈cells,v.oneCell'=true)(pK:∀v∈x,v.oneCell'=true)(hn:n<=1000000):
  SP 308 [v,Γ (i:Int),.slice (some ⟨vb,0,none⟩) 1 1] [.ob (aY v 213 2 n cells),.ob (jf vb x 213)] (λu post=>post=[.ob (aY u 213 2 (n+1) (cells.take (i*2)++x++cells.drop (i*2)))]):=by
 refine Enzz λW F w hS=>?_;apply aYp;delta aF bD ai bn;have gb:∀{l:Β} {w:Ζ},SL W l w->Has (.ob (jf vb x 213)) l->∀j u,x[j]?=some u->w.cell? ((⟨vb,0,none⟩:Addr).add j)=some u:=λh m j u e=>by
  rw[zz7,zz2];exact jf.cell h m e
 have fM:i=n->zq 2 24 [Γ 0,.string ⟨#[]⟩] 213 v (.slice (some ⟨vb,0,none⟩) 1 1) w λu w=>∃post,(post=[.ob (aY u 213 2 (n+1) (cells.take (i*2)++x++cells.drop (i*2)))])/\SL W (app post F) w:=λe=>by
  subst e;obtain⟨_,_,_,hlen,_⟩:=aY.at hS Xh;refine zx (n:=i) (m:=1) hS Xr ⟨rfl,hx,gb hS Xh⟩ (by omega) rfl pK (by omega) (by omega) ?_;clear hS;intro u w hS;rw[xxb (by omega),yyt (by omega),zz4];exact⟨_,rfl,aI hS⟩
 rcases aY.open hS with ⟨⟨a,rfl⟩,rfl,rfl,_⟩|⟨b,cap,rest,rfl,vm,hlen,ij,KC⟩
 ·refine⟨a,0,0,i,0,0,rfl,rfl,rfl,⟨_,rfl⟩,hi,zzz _,zzz _,?_⟩;refine zY ?_;refine Gp ?_;refine Χ ?_;refine zY ?_;refine Gp ?_;exact za (λh=>fM (by omega)) (λh=>by omega)
 refine⟨_,n,cap,i,n,cap,rfl,rfl,rfl,⟨_,rfl⟩,hi,vm,zzz _,?_⟩;refine zY ?_;refine Gp ?_;refine Χ ?_;refine zY ?_;refine Gp ?_;refine za (λh=>fM (by omega)) (λd_=>?_);clear fM hS;have hS:=KC;clear KC;have jl:i<n:=by omega
 have UT:=jf.ne hS;refine Gp ?_;refine aij xxy ?_;refine Gp ?_;obtain⟨A,hA⟩:∃A,A=cells.take (i*2):=⟨_,rfl⟩;obtain⟨D,hD⟩:∃D,D=cells.drop (i*2):=⟨_,rfl⟩;have xP:cells=A++D:=by rw[hA,hD,yyk]
 have lE:A.length=i*2:=by rw[hA,zzn];omega
 have xK:D.length=(n-i)*2:=by rw[hD,zz0];omega
 have Kw:∀v∈D,v.oneCell'=true:=λv hv=>gW v (by rw[xP];exact yyz _ hv);rw[<- hA,<- hD];have gK:(prog.info? 213).map (·.size)=some 2:=by kernel_rfl
 refine za (λhg=>?_) (λhg=>?_)
 ·
  have KR:cap=n:=by omega
  subst KR;refine⟨_,cap,cap,0,i,cap,rfl,rfl,⟨_,rfl⟩,rfl,by omega,by omega,by omega,?_⟩;rw[zzb (show ¬cap=0 by omega)];simp only[yyn,zz7,uum,wwd,wwx];refine Gp ?_;rw[show (((cap+1:Nat):Int)-(i:Int))=((cap+1-i:Nat):Int) by omega];cases hq:prog.info? 213 with
  | none=>rw[hq]at gK;cases gK
  | some ti=>
   have hI:=Tryz.Vo;rw[hq]at hI
   have hZ:=Tryz.bax;rw[hq]at hZ
   simp only[yyn,uuv,xxv]at hI hZ;obtain⟨_,h2,h3⟩:=hI;have hold:(Builtin.firstCells ti.size i (.slice (some ⟨b,0,none⟩) i cap)).run prog w.drew= .ok A.toArray w.drew:=by
    have hl:=wwp (P:=prog) w.drew ⟨b,0,none⟩ A λj u hj=>by
     rw[zz7,zz2];refine hS.drew.cell .hd ?_;rw[xP,zze,zzs (zzf.1 hj).1];exact hj
    rw[lE]at hl
    rw[h2];simp[Builtin.firstCells,hl]
   have pF:Builtin.nextslicecap (i+(cap+1-i)) cap*ti.bytes<=281474976710656:=growslice_fits (by omega) (by rw[h3];omega);have Aa:=Go.Lib.run_append_grow_zeros (P:=prog) w 160 3 160 213 ti _ .i64 .i64 xxy zz9 hq hZ (some ⟨b,0,none⟩) i cap A hold (cap+1-i) (by omega) (by omega) (by omega) (by omega) (by rw[h3];omega) pF;refine⟨_,_,Aa,?_⟩;generalize TN:grownCap w (i+(cap+1-i)) cap 213=cp;have vt:cap+1<=cp:=by
    have:=grownCap_ge w (i+(cap+1-i)) cap 213;omega
   have hz:∀k,Builtin.zeroCells (Value.cells (.agg #[Γ 0,.string ⟨#[]⟩])) k=(bq [Γ 0,.string ⟨#[]⟩] k).toArray:=λk=>by
    rw[<- EG (Value.cells (.agg #[Γ 0,.string ⟨#[]⟩])) [Γ 0,.string ⟨#[]⟩] rfl k,Array.toArray_toList]
   rw[hz,hz];obtain⟨E,hE⟩:∃E:Ξ,E=bq [Γ 0,.string ⟨#[]⟩] (cap+1-i)++bq [Γ 0,.string ⟨#[]⟩] (cp-(i+(cap+1-i))):=⟨_,rfl⟩;have Ty:E.length=(cp-i)*2:=by rw[hE,zza,jS,jS];simp;omega
   have e2:A.toArray++(bq [Γ 0,.string ⟨#[]⟩] (cap+1-i)).toArray++(bq [Γ 0,.string ⟨#[]⟩] (cp-(i+(cap+1-i)))).toArray=(A++E).toArray:=by rw[hE];simp
   rw[e2];have hS:=SL.new (cs:=A++E) (t:=213) hS.drew;clear Aa hold hz e2 hE;have vy:w.heap.size=w.drew.heap.size:=rfl;rw[vy];generalize w.drew.heap.size=nb at *
   generalize (w.drew.alloc (.cells (A++E).toArray 213))=w at *
   have ei:i+(cap+1-i)=cap+1:=by omega
   rw[ei];refine⟨_,cap+1,cp,i,cap+1,cp,rfl,rfl,rfl,⟨_,rfl⟩,by omega,vt,zzz _,?_⟩;rw[zzb (show ¬cp=i by omega)];simp only[yyn,zz7,zz2];have e3:=D3 A E x;rw[lE]at e3
   refine Ys (tt:=213) (l':=.pt nb (A++x++E.drop x.length) 213::.pt b (cells++rest) 213::.ob (jf vb x 213)::F) hS xxy gK (m:=1) (sz:=2) (vvg (by omega)) (by omega) (gb hS Xh) (by rw[e3];exact dX.hd) (by rw[zza];omega) pK ?_;clear hS e3;intro _ w hS;refine Gn λw hS=>?_;refine⟨_,cap+1,cp,i+1,cap+1,cp,rfl,rfl,rfl,⟨_,rfl⟩,by omega,vt,zzz _,?_⟩;rw[zzb (show ¬cp=i+1 by omega)];refine⟨_,cap,cap,i,cap,cap,rfl,rfl,rfl,⟨_,rfl⟩,by omega,zzz _,zzz _,?_⟩;rw[zzb (show ¬cap=i by omega)];simp only[yyn,zz7,zz2];have e4:=D3 (A++x) (E.drop x.length) D;have e5:(A++x).length=(i+1)*2:=by rw[zza];omega
   rw[e5]at e4
   have Kx:(E.drop x.length).length=E.length-2:=by rw[zz0,hx]
   refine Ys (tt:=213) (l':=.pt nb (A++x++D++(E.drop x.length).drop D.length) 213::.pt b (cells++rest) 213::.ob (jf vb x 213)::F) hS xxy gK (m:=cap-i) (sz:=2) (vvg (by omega)) xK (λj u hj=>?_) (by rw[e4];exact dX.hd) (by rw[zza,e5,Kx];omega) Kw ?_
   ·rw[zz7];refine hS.cell (.tl .hd) ?_;rw[xP,zze,zz3 (by omega),lE,xx0,zzs (zzf.1 hj).1];exact hj
   clear hS e4;intro _ w hS;refine⟨_,rfl,SL.bA (aY.mk (sz:=2) (n:=cap+1) (cap:=cp) (cells:=A++x++D) (rest:=(E.drop x.length).drop D.length) vt ?_ ?_ hS) Xi⟩
   ·rw[zza,e5];omega
   rw[zz0,Kx];omega

 have Lr:n+1<=cap:=by omega
 clear hg;have vG:2<=rest.length:=by rw[ij];omega
 refine Gp ?_;refine⟨_,n,cap,0,n+1,cap,rfl,rfl,⟨_,rfl⟩,rfl,by omega,by omega,by omega,?_⟩;rw[zzb (show ¬cap=0 by omega)];simp only[yyn,zz7,uum,wwd,wwx];refine Gp ?_;refine⟨_,n+1,cap,i+1,n+1,cap,rfl,rfl,rfl,⟨_,rfl⟩,by omega,by omega,by omega,?_⟩;rw[zzb (show ¬cap=i+1 by omega)];simp only[yyn,zz7,zz2];refine QL hS Xh Xh UT (by rw[zza];omega) ?_;refine⟨_,rfl,?_⟩;refine zt ?_;refine Gn λw hS=>?_;refine⟨_,n+1,cap,i+1,n+1,cap,rfl,rfl,rfl,⟨_,rfl⟩,by omega,by omega,by omega,?_⟩;rw[zzb (show ¬cap=i+1 by omega)];refine⟨_,n+1,cap,i,n+1,cap,rfl,rfl,rfl,⟨_,rfl⟩,by omega,by omega,by omega,?_⟩;rw[zzb (show ¬cap=i by omega)];simp only[yyn,zz7,zz2];obtain⟨E,hE⟩:∃E,E=D++rest:=⟨_,rfl⟩;have Ty:E.length=(cap-i)*2:=by rw[hE,zza];omega
 have Tv:cells++rest=A++E:=by rw[xP,hE,zze]
 rw[Tv]at hS
 have e3:=XY A E D 2 (by omega);rw[lE,show i*2+2=(i+1)*2 by omega]at e3
 refine Ys (tt:=213) (l':=.pt b (A++(E.take 2++D++E.drop (2+D.length))) 213::.ob (jf vb x 213)::F) hS xxy gK (m:=n-i) (sz:=2) (by simp only[Nat.min_def];split<;>omega) xK (λj u hj=>?_) (by rw[e3];exact dX.hd) (by rw[zza];omega) Kw ?_
 ·rw[zz7];refine hS.cell .hd ?_;rw[zz3 (by omega),lE,xx0,hE,zzs (zzf.1 hj).1];exact hj
 clear hS e3;intro _ w hS;refine⟨_,n+1,cap,i,n+1,cap,rfl,rfl,rfl,⟨_,rfl⟩,by omega,by omega,by omega,?_⟩;rw[zzb (show ¬cap=i by omega)];simp only[yyn,zz7,zz2];have e4:=D3 A (E.take 2++D++E.drop (2+D.length)) x;rw[lE,hx]at e4
 have Ad:(E.take 2).length=2:=by rw[zzn];omega
 have e5:(E.take 2++D++E.drop (2+D.length)).drop 2=D++E.drop (2+D.length):=by
  rw[zze];have:=ww9 (l₁:=E.take 2) (l₂:=D++E.drop (2+D.length))
  rwa [Ad]at this
 rw[e5]at e4
 refine Ys (tt:=213) (l':=.pt b (A++x++(D++E.drop (2+D.length))) 213::.ob (jf vb x 213)::F) hS xxy gK (m:=1) (sz:=2) (vvg (by omega)) (by omega) (gb hS Xh) (by rw[hx,e4];exact dX.hd) (by rw[zza,zza,zza,Ad,zz0];omega) pK ?_;clear hS e4 e5;intro _ w hS;rw[<- zze (A++x)]at hS
 refine⟨_,rfl,SL.bA (aY.mk (sz:=2) (n:=n+1) (cap:=cap) (cells:=A++x++D) (rest:=E.drop (2+D.length)) Lr ?_ ?_ hS) Xi⟩
 ·rw[zza,zza];omega
 rw[zz0];omega
abbrev bH(b:Nat):Ε:=Δ b
def awd{W w:Ζ}{l:Β}{α:Type}{enc:α->Ξ}{v u:Ε}{t:Ι}{sz j i:Nat}{k:IntKind}{xs:List α}{y:α}{K:Ζ->Prop}(hS:SL W (.ob (aY v t sz xs.length (xs.map enc).flatten)::l) w)(hn:∀x,(enc x).length=sz)
  (hj:j<xs.length) (hi:i<sz) (hy:(enc xs[j]).set i u=enc y) (h1:u.oneCell'=true) (hK:∀w',SL W (.ob (aY v t sz (xs.set j y).length ((xs.set j y).map enc).flatten)::l) w'->K w'):zj sz v (.int k (j:Int)) λp=>zm i p λq=>cR q u w K:=by
 rcases aY.open hS with ⟨_,h0,_⟩|⟨b,cap,rest,rfl,hc,hlen,ij,hS⟩
 ·omega
 have cA:j*sz+i<xs.length*sz:=by
  have:(j+1)*sz<=xs.length*sz:=yy4 _ hj;rw[yyo]at this;omega
 refine zM hj (yR ?_);rw[zz2];refine ZN hS .hd (zzc (by rw[zza];omega)) h1 λw' hS=>hK w' ?_;rw[wwe _ _ (by omega),Cq hn xs j i hj y u hi hy]at hS
 have hl:(xs.set j y).length=xs.length:=yyi;rw[hl];refine aY.mk hc ?_ ij hS;rw[nK hn,hl]
abbrev g_(v:Ε)(l:List Row):Μ:=.ob (aY v 213 2 l.length (l.map gw).flatten)
def J_{z v:Ε}(h:v.oneCell'=true):eV (bq [z] 1) [(0,1,v)]=some [v]:=by simp[eV,bq,jC h]
def uU(r:Row):∀v∈gw r,v.oneCell'=true:=by simp[gw,Value.oneCell']
def B_(k:Int)(v:Η):gw ⟨k,v⟩=[Γ k,.string v]:=rfl
def dq(x:Nat × List Row):zw:=gi λv:Ε=>zG True [.pt x.1 [v] 370,g_ v x.2]
def dq.iff{W w:Ζ}{b:Nat}{C:List Row}{l:Β}:SL W (.ob (dq (b,C))::l) w↔∃v,SL W (.pt b [v] 370::g_ v C::l) w:=by
 unfold dq;simp only[SL.ex,SL.fact,zzq,zzp,vv7]
def YP(a:Int):SP 295 [Γ a] [] (bj (.bool false) []):=by
 refine Enzz λW F w hS=>?_;apply OZ;refine Gp ?_;rw[show decide (a≠a)=false by simp];(exact bt hS)
def lz(a b:Int):Int:=if a<b then -1 else if b<a then 1 else 0
def Jw{a b:Int}:lz a b<0↔a<b:=by unfold lz;split<;>(try split)<;>omega
def Rz{a b:Int}:lz a b=0↔a=b:=by unfold lz;split<;>(try split)<;>omega
def Q4(a b:Int):SP 246 [Γ a,Γ b] [] (bj (Γ (lz a b)) []):=by
 refine Enzz λW F w hS=>?_;apply OY;delta aF ai;refine Cg (YP a) λw hS=>?_;refine Cg (YP b) λw hS=>?_;refine za (λh=>?_) (λh=>?_)
 ·rw[show lz a b = -1 by unfold lz;rw[zzd h]];(exact bt hS)
 refine bw (λh2=>?_) (λh2=>?_)
 ·rw[show lz a b=1 by unfold lz;rw[zzb h,zzd h2]];(exact bt hS)
 rw[show lz a b=0 by unfold lz;rw[zzb h,zzb h2]];(exact bt hS)
def Z0(r:Row)(key:Int):SP 319 [agg (gw r),Γ key] [] (bj (Γ (lz r.key key)) []):=by
 obtain⟨rk,rv⟩:=r;refine Enzz λW F w hS=>?_;apply aY1;delta aW;refine zu hS λxb w hS=>?_;rw[B_]at hS
 refine Gp ?_;refine Cg (Q4 rk key) λw hS=>?_;(exact bt hS)
def aiz{i j:Nat}{K:Ε->Prop}(h:i+j<=1000000000)(k:K (Γ (((i+j) / 2:Nat):Int))):zc .add (Γ i) (Γ j) λa=>zC .u64 a λb=>zc .shr b (.int .u64 1) λc=>zC .i64 c K:=by
 refine yk (by omega) (zK ?_);rw[ww7,show ((i+j:Nat):Int) % 18446744073709551616=((i+j:Nat):Int) by omega];have e:((i+j:Nat):Int).fdiv (2 ^ (min (1:Int).toNat IntKind.u64.bits))=(((i+j) / 2:Nat):Int):=by
  rw[show (min (1:Int).toNat IntKind.u64.bits)=1 by decide,Int.fdiv_eq_ediv_of_nonneg _ (by decide)];omega
 refine⟨_,by simp only[gv];rw[zzb (by decide)],?_⟩;rw[e];exact ya (by omega) k
def Q1(v:Ε)(C:List Row)(key:Int)(hs:ek C)(hn:C.length<=1000000):
  SP 318 [v,Γ key,.func (.func 319) #[] #[]] [g_ v C] (λu post=>∃i,AtR C key i/\u= .tuple #[Γ (i:Nat),.bool (j6 C key i)]/\post=[g_ v C]):=by
 refine Enzz λW F w hS=>?_;apply aY0;delta aF ai;refine zB hS Xh ?_;refine⟨λus w=>∃i j:Nat,us=[Γ i,Γ j]/\i<=j/\j<=C.length/\(∀k (h:k<C.length),k<i->C[k].key<key)/\(∀h:j<C.length,key<=C[j].key)/\SL W (g_ v C::F) w,
  λus _=>match us with|[.int _ i,.int _ j]=>(j-i).toNat|_=>0,⟨0,C.length,rfl,by omega,by omega,λk h hk=>by omega,λh=>by omega,hS⟩,?_⟩
 clear hS;rintro v9 v10 w ⟨i,j,bM,pD,hj,x',K2,hS⟩;cases bM;refine wg ?_;refine za (λh=>?_) (λh=>?_)
 ·refine aiz (by omega) ?_;generalize hm:(i+j) / 2=m;have tj:i<=m/\m<j:=by omega
  clear hm;have nf:m<C.length:=by omega
  refine yK hS Xh lZ (x:=C[m]) (by simp[nf]) nf ?_;refine⟨319,#[],#[],rfl,by decide,?_⟩;refine Cg (Z0 C[m] key) λw hS=>?_;refine za (λh1=>?_) (λh1=>?_)
  ·have h1:=Jw.1 h1;refine Gp ?_;refine⟨⟨m+1,j,rfl,by omega,hj,λk hk hkm=>?_,K2,hS⟩,by dsimp only;omega⟩;rcases ww0 k m with h2|h2
   ·have:=xx7.1 hs k m hk nf h2;omega
   obtain rfl:k=m:=by omega
   exact h1
  have h1:¬C[m].key<key:=λh2=>h1 (Jw.2 h2);exact⟨⟨i,m,rfl,tj.1,by omega,x',λ_=>by omega,hS⟩,by dsimp only;omega⟩
 obtain rfl:i=j:=by omega
 have hA:AtR C key i:=⟨hj,x',K2⟩;refine bw (λh1=>?_) (λh1=>?_)
 ·have bg:i<C.length:=by omega
  refine yK hS Xh lZ (x:=C[i]) (by simp[bg]) bg ?_;refine⟨319,#[],#[],rfl,by decide,?_⟩;refine Cg (Z0 C[i] key) λw hS=>?_;have e:decide (lz C[i].key key=0)=j6 C key i:=by
   unfold j6;rw[yyd,Rz];exact⟨λh=>⟨bg,h⟩,λ⟨_,h⟩=>h⟩
  rw[e];exact⟨_,⟨i,hA,rfl,rfl⟩,hS⟩
 have e:j6 C key i=false:=zz5 λ⟨h,_⟩=>h1 (by omega);rw[<- e];exact⟨_,⟨i,hA,rfl,rfl⟩,hS⟩
def YJ(v:Ε)(n i:Nat)(cells:Ξ)(hi:i<n)(gW:∀v∈cells,v.oneCell'=true)(hb:n*24<=140737488355328)(hn:n<=140737488355328):
  SP 322 [v,Γ (i:Int),Γ ((i+1:Nat):Int)] [.ob (aY v 213 2 n cells)] (λu post=>post=[.ob (aY u 213 2 (n-1) (cells.take (i*2)++cells.drop ((i+1)*2)))]):=
 JR (z:=[Γ 0,.string ⟨#[]⟩]) (zv:=.agg #[Γ 0,.string ⟨#[]⟩]) (λv0 v1 v2 w R h=>aY5 v0 v1 v2 w R h) xxy (λw=>by kernel_rfl) rfl rfl (by simp[Value.oneCell']) v n i cells hi gW hb hn
def Rs(v:Ε)(C:List Row)(hn:C.length<=1000000):SP 138 [v] [g_ v C] (λu post=>post=[g_ u C,g_ v C]):=
 Rt (λv0 w R h=>aRt v0 w R h) rfl (by decide) (tR uU C) (nK lZ C) (by omega) (by omega)
section
variable (b:Nat) (C:List Row) (key:Int) (hs:ek C) (hn:C.length<=1000000)
include hs hn
def y3(v:Ε):SP 273 [bH b,Γ key] [.pt b [v] 370,g_ v C] (λu post=>∃i,AtR C key i/\u= .tuple #[Γ (i:Nat),.bool (j6 C key i)]/\post=[.pt b [v] 370,g_ v C]):=by
 refine Enzz λW F w hS=>?_;apply aX6;delta bd;refine Gp ?_;refine Cc (Q1 v C key hs hn) ?_;clear hS;rintro u post ⟨i,hA,rfl,rfl⟩ w hS;(try simp only[app]at hS);refine Gp ?_
 exact⟨_,⟨i,hA,rfl,rfl⟩,aI hS⟩
def Z7(val:Η):SP 261 [bH b,Γ key,.string val] [.ob (dq (b,C))] (λu post=>(∃q,u= .bool q)/\post=[.ob (dq (b,eW C ⟨key,val⟩))]):=by
 refine Enzz λW F w hS=>?_;apply aXt;delta bd cq bc ai bn;obtain⟨v,hS⟩:=dq.iff.1 hS;refine Cc (y3 b C key hs hn v) ?_;clear hS;rintro u post ⟨i,hA,rfl,rfl⟩ w hS;(try simp only[app]at hS);refine Gp ?_
 have hi:=hA.ins val;have hle:=hA.le;cases hk:j6 C key i with
 | true=>
  rw[hk,zzd rfl]at hi
  obtain⟨bg,_⟩:=zzl hk;refine zt ?_;refine Gp ?_;refine awd (enc:=gw) (y:=⟨key,val⟩) (Has.front hS (l2:=.pt b [v] 370::F) Xr) lZ bg (by decide) ?_ rfl λw hS=>?_
  ·obtain⟨_,e⟩:=zzl hk;rw[<- e];rfl
  rw[hi];exact⟨_,⟨⟨_,rfl⟩,rfl⟩,dq.iff.2 ⟨v,aI hS⟩⟩
 | false=>
  rw[hk,zzb (by decide)]at hi
  refine zs ?_;(repeat refine Gp ?_)
  refine aii hS (J' (cs:=gw ⟨key,val⟩) rfl rfl) λvb w hS=>?_;refine Cc (YN v C.length i vb (C.map gw).flatten (gw ⟨key,val⟩) hle rfl (tR uU _) (uU _) hn) ?_;clear hS;rintro u post rfl w hS;try simp only[app]at hS
  have h1:=aY.one hS;refine Gn λw hS=>?_;have e:((C.map gw).flatten.take (i*2)++gw ⟨key,val⟩++(C.map gw).flatten.drop (i*2))=((eW C ⟨key,val⟩).map gw).flatten:=by
   rw[hi,u9 lZ,u7 lZ];simp
  have hl:C.length+1=(eW C ⟨key,val⟩).length:=by rw[hi];simp;omega
  rw[e,hl]at hS
  exact⟨_,⟨⟨_,rfl⟩,rfl⟩,dq.iff.2 ⟨u,aI hS⟩⟩
def QA:SP 279 [bH b,Γ key] [.ob (dq (b,C))] (λu post=>(∃q,u= .bool q)/\post=[.ob (dq (b,gH C key))]):=by
 intro W F w hS;apply aYc;delta bd cq ai;(try simp only[app]at hS);obtain⟨v,hS⟩:=dq.iff.1 hS;refine Cc (y3 b C key hs hn v) ?_;clear hS;rintro u post ⟨i,hA,rfl,rfl⟩ w hS;(try simp only[app]at hS);refine Gp ?_
 have hi:=hA.del hs;have hle:=hA.le;cases hk:j6 C key i with
 | true=>
  rw[hk,zzd rfl]at hi
  obtain⟨bg,_⟩:=zzl hk;refine zt ?_;refine Gp ?_;refine Cc (YJ v C.length i (C.map gw).flatten bg (tR uU _) (by omega) (by omega)) ?_;clear hS;rintro u post rfl w hS;try simp only[app]at hS
  have h1:=aY.one hS;refine Gn λw hS=>?_;have e:((C.map gw).flatten.take (i*2)++(C.map gw).flatten.drop ((i+1)*2))=((gH C key).map gw).flatten:=by
   rw[hi,u9 lZ,u7 lZ];simp
  have hl:C.length-1=(gH C key).length:=by rw[hi,zza,zzn,zz0];omega
  rw[e,hl]at hS
  exact⟨_,⟨⟨_,rfl⟩,rfl⟩,dq.iff.2 ⟨u,aI hS⟩⟩
 | false=>
  rw[hk,zzb (by decide)]at hi
  refine zs ?_;rw[hi];exact⟨_,⟨⟨_,rfl⟩,rfl⟩,dq.iff.2 ⟨v,aI hS⟩⟩
def Kk(o:Option Η):Ε:=.tuple #[.string (o.getD emp),.bool o.isSome]
def QB:SP 211 [bH b,Γ key] [.ob (dq (b,C))] (bj (Kk (cP C key)) [.ob (dq (b,C))]):=by
 refine Enzz λW F w hS=>?_;apply aW9;delta bd aW bD;obtain⟨v,hS⟩:=dq.iff.1 hS;refine Cc (y3 b C key hs hn v) ?_;clear hS;rintro u post ⟨i,hA,rfl,rfl⟩ w hS;(try simp only[app]at hS);refine Gp ?_
 obtain⟨CR,T7⟩:=hA.get hs;cases hk:j6 C key i with
 | true=>
  obtain⟨bg,e⟩:=zzl hk;refine zs ?_;refine Gp ?_;refine zX hS Xh lZ (x:=C[i]) (by simp[bg]) bg (i:=1) rfl ?_;rw[T7 bg e];exact⟨_,⟨rfl,rfl⟩,dq.iff.2 ⟨v,aI hS⟩⟩
 | false=>
  refine zt ?_;have e:cP C key=none:=by
   rw[hk]at CR
   cases hg:cP C key with
   | none=>rfl
   | some x=>rw[hg]at CR;cases CR
  rw[e];exact⟨_,⟨rfl,rfl⟩,dq.iff.2 ⟨v,aI hS⟩⟩
end
def QC(b:Nat)(C:List Row):SP 210 [bH b] [.ob (dq (b,C))] (bj (Γ (C.length:Nat)) [.ob (dq (b,C))]):=by
 refine Enzz λW F w hS=>?_;apply aW8;delta bd;obtain⟨v,hS⟩:=dq.iff.1 hS;refine Gp ?_;refine zB hS Xh ?_;exact⟨_,⟨rfl,rfl⟩,dq.iff.2 ⟨v,aI hS⟩⟩
def Z6(H:aX)(v:Ε)(l:List Row)(hv:bK H 2 v l.length (l.map gw).flatten)(hl:l.length<=100000):SP 193 [v] [.mem H] (λu post=>∃b,u=bH b/\post=[.ob (dq (b,j7 [] l)),.mem H]):=by
 refine Enzz λW F w hS=>?_;apply aWq;delta aF aW ai bn aZ;refine Gp ?_;refine zu hS λxb w hS=>?_;have hS:SL W (g_ Θ []::_) _:=aY.nil hS;have hS:SL W (.ob (dq (xb,[]))::.mem H::F) _:=dq.iff.2 ⟨_,aI hS⟩;refine zh hv ?_;refine⟨λus w=>∃i:Nat,us=[Γ i]/\i<=l.length/\SL W (.ob (dq (xb,j7 [] (l.take i)))::.mem H::F) w,λus _=>match us with|[.int _ i]=>(l.length-i).toNat|_=>0,⟨0,rfl,by omega,hS⟩,?_⟩;clear hS;rintro v10 w ⟨i,bM,hi,hS⟩;cases bM;refine bw (λh=>?_) (λh=>?_)
 ·have bg:i<l.length:=by omega
  have hp:=XV bg [];have gd:=NF (l.take i) (C:=[]) List.Pairwise.nil;have tf:=ND (l.take i) [];rw[zzn,yym]at tf
  refine zy hS Xh lZ hv (x:=l[i]) (by simp[bg]) bg ?_;generalize l[i]=r at *
  have hP:(j7 [] (l.take i)).length<=1000000:=by omega
  clear tf;generalize j7 [] (l.take i)=P at *
  obtain⟨rk,rv⟩:=r;rw[B_];refine Gm λb w hS=>?_;refine Cc (Z7 xb P rk gd hP rv) ?_;clear hS;rintro u post ⟨⟨q,rfl⟩,rfl⟩ w hS;(try simp only[app]at hS);refine Gp ?_
  rw[<- hp]at hS
  exact⟨⟨i+1,rfl,by omega,aI hS⟩,by dsimp only;omega⟩
 obtain rfl:i=l.length:=by omega
 rw[zz6]at hS
 exact⟨_,⟨xb,rfl,rfl⟩,aI hS⟩
def mV(p:Nat × List Row):Ξ:=[bH p.1]
def uS(p:Nat × List Row):(mV p).length=1:=rfl
abbrev iK(v:Ε)(L:List (Nat × List Row)):Μ:=.ob (aY v 295 1 L.length (L.map mV).flatten)
def cH(sp:Nat)(ts:List (List Row)):zw:=gi λx:Ε × List (Nat × List Row)=>zG (x.2.map Prod.snd=ts) [.pt sp [x.1] 247,iK x.1 x.2,.ob (ze dq x.2)]
def cH.iff{W w:Ζ}{sp:Nat}{ts:List (List Row)}{l:Β}:SL W (.ob (cH sp ts)::l) w↔∃v L,L.map Prod.snd=ts/\SL W (.pt sp [v] 247::iK v L::.ob (ze dq L)::l) w:=by
 unfold cH;simp only[SL.ex,SL.fact,zzq,zzp];exact⟨λ⟨x,h1,h2⟩=>⟨x.1,x.2,h1,h2⟩,λ⟨v,L,h1,h2⟩=>⟨(v,L),h1,h2⟩⟩
def cH.put{W w:Ζ}{sp:Nat}{v:Ε}{L:List (Nat × List Row)}{ts:List (List Row)}{l F:Β}(hL:L.map Prod.snd=ts)(hS:SL W l w)(p:eQ [.pt sp [v] 247,iK v L,.ob (ze dq L)] l F):SL W (.ob (cH sp ts)::F) w:=cH.iff.2 ⟨v,L,hL,hS.pick p⟩
def se{L:List (Nat × List Row)}{ts:List (List Row)}(h:L.map Prod.snd=ts):L.length=ts.length:=by rw[<- h,yyh]
def AX{L:List (Nat × List Row)}{ts:List (List Row)}(h:L.map Prod.snd=ts){i:Nat}(hi:i<ts.length):∃b,L[i]?=some (b,ts[i]):=by
 subst h;have hl:i<L.length:=by simpa using hi
 exact⟨L[i].1,by rw[zzc hl];simp⟩
def Oj{L:List (Nat × List Row)}{ts:List (List Row)}(h:L.map Prod.snd=ts)(i:Nat)(b:Nat)(C:List Row):(L.set i (b,C)).map Prod.snd=ts.set i C:=by
 rw[<- h,vvo]
def one_set{L:List (Nat × List Row)}{i b:Nat}{C D:List Row}(h:L[i]?=some (b,C)):(L.set i (b,D)).map mV=L.map mV:=by
 refine vvp (by simp) λj h1 h2=>?_;simp only[yyh,yyi]at h1;rw[uue,uue,xxr];split
 ·rename_i e;subst e;rw[zzc h1]at h
  rw[xxx h];rfl
 rfl
def iK.set{W w:Ζ}{v:Ε}{L:List (Nat × List Row)}{i b:Nat}{C D:List Row}{l:Β}(h:L[i]?=some (b,C))(hS:SL W (iK v L::l) w):SL W (iK v (L.set i (b,D))::l) w:=by
 have e:=one_set (D:=D) h;have e2:(L.set i (b,D)).length=L.length:=yyi;unfold iK;rw[e,e2];exact hS
section
variable (sp:Nat) (ts:List (List Row))
def yL:SP 120 [bH sp] [.ob (cH sp ts)] (bj (Γ (ts.length:Nat)) [.ob (cH sp ts)]):=by
 refine Enzz λW F w hS=>?_;apply aRn;delta bd;obtain⟨v,L,hL,hS⟩:=cH.iff.1 hS;rw[<- se hL];refine Gp ?_;refine zB hS Xh ?_;exact⟨_,⟨rfl,rfl⟩,SL.bA (cH.put hL hS Xp) Xi⟩
def Zq(t:Int):SP 265 [bH sp,Γ t] [.ob (cH sp ts)] (bj (.bool (decide (0<=t/\t<ts.length))) [.ob (cH sp ts)]):=by
 refine Enzz λW F w hS=>?_;apply aXx;delta aF bd bc ai;obtain⟨v,L,hL,hS⟩:=cH.iff.1 hS;have hl:=se hL;refine bw (λh=>?_) (λh=>?_)
 ·refine Gp ?_;refine zB hS Xh ?_;refine Gp ?_;rw[show decide (0<=t/\t<(ts.length:Int))=decide (t<(L.length:Int)) from yyd.2 ⟨λh=>by omega,λh=>by omega⟩];exact⟨_,⟨rfl,rfl⟩,SL.bA (cH.put hL hS Xp) Xi⟩
 rw[show decide (0<=t/\t<(ts.length:Int))=false from zz5 λh=>by omega];exact⟨_,⟨rfl,rfl⟩,SL.bA (cH.put hL hS Xp) Xi⟩
def OG{ts:List (List Row)}{t:Int}(h:¬(0<=t/\t<ts.length)):gC ts t=[]:=by
 unfold gC;split
 ·rfl
 rw[yys (by omega)];rfl
end
def uo(n:Int)(u:Ε)(post:Β):Prop:=if n<1\/8<n then u= .tuple #[.pointer none,Γ 1]/\post=[] else ∃sp,u= .tuple #[bH sp,Γ 0]/\post=[.ob (cH sp (List.replicate n.toNat []))]
def qX(n:Int):SP 141 [Γ n] [] (uo n):=by
 refine Enzz λW F w hS=>?_;apply aRx;delta aF cq ba bG ai bC aZ;refine Gp ?_;refine za (λh=>⟨[],by unfold uo;rw[zzd (.inl h)];exact⟨rfl,rfl⟩,hS⟩) (λh1=>?_);refine Gp ?_;refine za (λh=>⟨[],by unfold uo;rw[zzd (.inr h)];exact⟨rfl,rfl⟩,hS⟩) (λh2=>?_);refine Gp ?_;refine zu hS λsp w hS=>?_;have hS:SL W (iK Θ []::_) _:=aY.nil hS;have hS:SL W (.ob (ze dq [])::_) _:=ze.nil hS;refine⟨λus w=>∃(i:Nat) (v:Ε) (L:List (Nat × List Row)),us=[Γ i]/\i<=n/\L.map Prod.snd=List.replicate i []/\SL W (.pt sp [v] 247::iK v L::.ob (ze dq L)::F) w,
  λus _=>match us with|[.int _ i]=>(n-i).toNat|_=>0,⟨0,_,[],rfl,by omega,rfl,aI hS⟩,?_⟩
 clear hS;rintro wu w ⟨i,v,L,bM,hi,hL,hS⟩;cases bM;have hl:=se hL;rw[xxd]at hl
 refine bw (λh=>?_) (λh=>?_)
 ·refine Gn λw hS=>?_;have hS:=SL.DH hS;refine Cc (Z6 aX.emp Θ [] (bK.nil _ _) (by decide)) ?_;clear hS;rintro u post ⟨xb,rfl,rfl⟩ w hS;refine Gm λb w hS=>?_;refine ye (n:=L.length) (xs:=L) (y:=(xb,[])) (enc:=mV) hS Xr Xh uS (λx=>by simp[mV,Value.oneCell']) rfl (by omega) (by omega) λu w hS=>?_;have l_:=aY.one hS;refine Gn λw hS=>?_;refine⟨⟨i+1,u,L++[(xb,[])],rfl,by omega,by rw[zzx,hL,List.replicate_succ'];rfl,?_⟩,by dsimp only;omega⟩;have hS:=hS.lS (x:=(xb,([]:List Row)));rw[show j7 [] []=[] from rfl]at hS
  have hS:=ze.snoc (SL.bA hS (t:=.ob (ze dq L)::.ob (dq (xb,[]))::.pt sp [u] 247::iK u (L++[(xb,[])])::F) Xi);exact aI hS
 refine⟨[.ob (cH sp (List.replicate n.toNat []))],?_,SL.bA (cH.put (ts:=List.replicate n.toNat []) (by rw[hL];congr 1;omega) hS Xp) Xi⟩;unfold uo;rw[zzb (by omega)];exact⟨sp,rfl,rfl⟩
def PC{ts:List (List Row)}(h:∀C∈ts,ek C){c:bY}(ht:fK ts.length c=true):∀C∈gP ts c,ek C:=λC hC=>by
 rcases DJ hC with hC|rfl
 ·exact h C hC
 have h1:=h _ (A2 (zzl ht));unfold iE;split
 ·exact Oq h1 _
 exact Ef h1 _
def wZ:∀{l:List bY} {ts:List (List Row)},(∀C∈ts,ek C)->(∀c∈l,fK ts.length c=true)->∀C∈dV ts l,ek C
 | [],ts,h,_=>h
 | c::l,ts,h,h2=>by
  show ∀C∈dV (gP ts c) l,ek C;refine wZ (PC h (h2 c (.head _))) λx hx=>?_;rw[ru];exact h2 x (.tail _ hx)
def aIc(b:Nat)(C D:List Row)(c:bY)(hs:ek C)(hn:C.length<=1000000):SP 216 [agg (mV (b,D)),agg (dh c)] [.ob (dq (b,C))] (λ_ post=>post=[.ob (dq (b,iE C c))]):=by
 refine Enzz λW F w hS=>?_;apply aXe;delta aW;refine zu hS λxb w hS=>?_;refine zu hS λyb w hS=>?_;unfold dh mV at hS;obtain⟨ct,ck,cg,cv⟩:=c;refine Gp ?_;cases cg with
 | true=>
  refine zt ?_;refine Gp ?_;refine Cc (QA b C ck hs hn) ?_;clear hS;rintro u post ⟨⟨q,rfl⟩,rfl⟩ w hS;try simp only[app]at hS
  have hS:SL W (.ob (dq (b,iE C ⟨ct,ck,true,cv⟩))::_::_::F) _:=hS;exact⟨_,rfl,aI hS⟩
 | false=>
  refine zs ?_;refine Gp ?_;refine Cc (Z7 b C ck hs hn cv) ?_;clear hS;rintro u post ⟨⟨q,rfl⟩,rfl⟩ w hS;try simp only[app]at hS
  have hS:SL W (.ob (dq (b,iE C ⟨ct,ck,false,cv⟩))::_::_::F) _:=hS;exact⟨_,rfl,aI hS⟩
section
variable (sp:Nat) (ts:List (List Row)) (H:aX) (v:Ε) (l:List bY) (hv:bK H 4 v l.length (l.map dh).flatten) (hl:l.length<=140737488351232)
include hv hl
def Yi:SP 209 [bH sp,v] [.ob (cH sp ts),.mem H] (bj (.bool (l.all (fK ts.length))) [.ob (cH sp ts),.mem H]):=by
 refine Enzz λW F w hS=>?_;apply aW6;delta aF aW bD bc ai bn;refine zh hv ?_;refine⟨λus w=>∃i:Nat,us=[Γ i]/\i<=l.length/\(∀j (h:j<l.length),j<i->fK ts.length l[j]=true)/\SL W (.ob (cH sp ts)::.mem H::F) w,λus _=>match us with|[.int _ i]=>(l.length-i).toNat|_=>0,⟨0,rfl,by omega,λj h hj=>by omega,hS⟩,?_⟩;clear hS;rintro v9 w ⟨i,bM,hi,b5,hS⟩;cases bM;refine bw (λh=>?_) (λh=>?_)
 ·have bg:i<l.length:=by omega
  refine zy hS Xh kM hv (x:=l[i]) (by simp[bg]) bg ?_;have hq:fK ts.length l[i]=decide (0<=l[i].table/\l[i].table<(ts.length:Int)):=rfl;have hf:fK ts.length l[i]=false->l.all (fK ts.length)=false:=λh=>uu0.2 ⟨_,zzi bg,by rw[h];decide⟩;have CE:fK ts.length l[i]=true->∀j (h:j<l.length),j<i+1->fK ts.length l[j]=true:=λh j hj gJ=>by
   by_cases e:j=i
   ·subst e;exact h
   exact b5 j hj (by omega)
  clear b5;generalize l[i]=c at *
  obtain⟨ct,ck,cg,cv⟩:=c;refine Gm λb w hS=>?_;refine Cg (Zq sp ts ct) λw hS=>?_;refine zr (λhb=>?_) (λhb=>?_)
  ·rw[hf (by rw[hq];exact hb)];(exact bt hS)
  refine Gp ?_;refine⟨⟨i+1,rfl,by omega,CE (by rw[hq];exact hb),aI hS⟩,by dsimp only;omega⟩
 rw[show l.all (fK ts.length)=true from zzw.2 λc hc=>by
  obtain⟨j,hj,rfl⟩:=yyf hc;exact b5 j hj (by omega)]
 (exact bt hS)
def Zv(hs:∀C∈ts,ek C)(N:Nat)(hn:∀C∈ts,C.length<=N)(hN:N+l.length<=1000000):SP 159 [bH sp,v] [.ob (cH sp ts),.mem H] (bj (.bool (l.all (fK ts.length))) [.ob (cH sp (if l.all (fK ts.length)=true then dV ts l else ts)),.mem H]):=by
 refine Enzz λW F w hS=>?_;apply aWf;delta aF bd aW bD bc ai bn;refine Cg (Yi sp ts H v l hv hl) λw hS=>?_;cases ha:l.all (fK ts.length) with
 | false=>
  refine zt ?_;rw[zzb (by decide)];(exact bt hS)
 | true=>
  refine zs ?_;rw[zzd rfl];have ha:=zzw.1 ha;refine zh hv ?_;refine⟨λus w=>∃i:Nat,us=[Γ i]/\i<=l.length/\SL W (.ob (cH sp (dV ts (l.take i)))::.mem H::F) w,λus _=>match us with|[.int _ i]=>(l.length-i).toNat|_=>0,⟨0,rfl,by omega,hS⟩,?_⟩;clear hS;rintro tY w ⟨i,bM,hi,hS⟩;cases bM;refine bw (λh=>?_) (λh=>?_)
  ·have bg:i<l.length:=by omega
   have gd:dV ts (l.take (i+1))=gP (dV ts (l.take i)) l[i]:=by rw[zzh bg,Jb]
   have jl:=ha _ (zzi bg);have pB:=pk ts (l.take i);have nQ:=wZ (l:=l.take i) hs λc hc=>ha c (xxi hc);have rJ:=wY N (l:=l.take i) hn λc hc=>ha c (xxi hc);have Dg:(l.take i).length<=l.length:=by rw[zzn];omega
   generalize dV ts (l.take i)=T at *
   refine zy hS Xh kM hv (x:=l[i]) (by simp[bg]) bg ?_;generalize l[i]=c at *
   obtain⟨ct,ck,cg,cv⟩:=c;obtain⟨h0,h1⟩:0<=ct/\ct<(ts.length:Int):=zzl jl;obtain⟨t,rfl⟩:∃n:Nat,ct=n:=⟨ct.toNat,by omega⟩;have ht:t<T.length:=by omega
   have rX:T[t]∈T:=zzi ht;obtain⟨pv,L,hL,hS⟩:=cH.iff.1 hS;obtain⟨b0,hb⟩:=AX hL ht;have KA:=se hL;refine Gm λb w hS=>?_;refine yK hS Xh uS hb (by omega) ?_;refine Gp ?_;have hS:=ze.take (SL.bA hS (t:=.ob (ze dq L)::.pt sp [pv] 247::iK pv L::.mem H::F) Xi) hb;refine Cc (aIc b0 T[t] T[t] ⟨t,ck,cg,cv⟩ (nQ _ rX) (by have:=rJ _ rX;omega)) ?_;clear hS;rintro u post rfl w hS;(try simp only[app]at hS);refine Gp ?_
   have hS:=ze.put hS (by omega);have hS:=iK.set (D:=iE T[t] ⟨t,ck,cg,cv⟩) hb (SL.bA hS (t:=iK pv L::.ob (ze dq (L.set t (b0,iE T[t] ⟨t,ck,cg,cv⟩)))::.pt sp [pv] 247::.mem H::F) Xi);refine⟨⟨i+1,rfl,by omega,?_⟩,by dsimp only;omega⟩;rw[gd];refine SL.bA (cH.put (ts:=gP T ⟨t,ck,cg,cv⟩) ?_ hS Xp) Xi;rw[Oj hL t b0];unfold gP;rw[mz T t ht];rfl
  obtain rfl:i=l.length:=by omega
  rw[zz6]at hS
  (exact bt hS)
end
structure uk{κ:Type}[DecidableEq κ](P:Program)(kt:Ι)(key:κ->Ε):Prop where
 wide:∃fs,P.underlying kt=some (.struct fs)
 check:∀(k:κ) (em:Bool) (w:Ζ),(Instr.checkKey em 10000 kt (key k)).run P w= .ok () w
 eq:∀(a b:κ) (w:Ζ),(Op.equal kt (key a) (key b)).run P w= .ok (decide (a=b)) w
 stays:∀(k:κ) (w:Ζ),(Instr.keyThatStays (key k) (key k)).run P w= .ok (key k) w
 inj:∀{a b:κ},key a=key b->a=b
section
variable {W w:Ζ} {l l':Β} {κ α:Type} [DecidableEq κ] {key:κ->Ε} {val:α->Ε} {b:Nat} {m:List (κ × α)} {P:Program} {t kt et:Ι} {z:Ε} {k:κ}
def xw(ok:uk P kt key)(k:κ)(es:List MapEntry):(Instr.findKey kt (key k) es).run P w=(Instr.findAsking kt (key k) es).run P w:=by
 obtain⟨fs,hd⟩:=ok.wide;cases es with
 | nil=>simp[Instr.findKey,zzu hd,Result.andThen,Instr.findNow,Instr.findAsking]
 | cons e es=>simp[Instr.findKey,zzu hd,Result.andThen,Instr.findNow,Instr.sameNow]
def Co(ok:uk P kt key)(k:κ):∀(es:List MapEntry) (m:List (κ × α)) (i:Nat),es.map kv=m.map (kw key val) ->
  ((Instr.findAsking kt (key k) es i).run P w= .ok none w/\dM m k=none/\(∀v,eH m k v=m++[(k,v)])/\∀x∈es,x.key≠key k) \/
  ∃j e a,(Instr.findAsking kt (key k) es i).run P w= .ok (some (i+j,val a)) w/\es[j]?=some e/\e.key=key k/\dM m k=some a /\
   (∀v,(es.modify j λe=>{e with key:=key k,val:=val v}).map kv=(eH m k v).map (kw key val))
 | [],[],_,_=>.inl ⟨rfl,rfl,λ_=>rfl,by simp⟩
 | [],_::_,_,h=>by simp at h
 | _::_,[],_,h=>by simp at h
 | e::es,p::m,i,h=>by
  simp only[zzj,List.cons.injEq]at h;obtain⟨h1,h2⟩:=h;obtain⟨x,y⟩:=p;simp only[kv,kw,xxv]at h1;obtain⟨kT,s5⟩:=h1;have hq:=ok.eq k x w;by_cases hx:x=k
  ·subst hx;rw[zzr rfl]at hq
   refine .inr ⟨0,e,y,by simp[Instr.findAsking,kT,hq,s5,Result.andThen],rfl,kT,by simp[dM],?_⟩;intro v;simp[eH,kv,kw];exact h2
  rw[zz5 (λh=>hx h.symm)]at hq
  rcases Co ok k es m (i+1) h2 with ⟨a1,a2,a3,a5⟩|⟨j,e',a,a1,a2,a3,a4,a5⟩
  ·refine .inl ⟨by simp[Instr.findAsking,kT,hq,a1,Result.andThen],by simp[dM,hx,a2],λv=>by simp[eH,hx,a3],?_⟩;intro z hz;rcases zzv.1 hz with rfl|hz
   ·rw[kT];exact λq=>hx (ok.inj q)
   exact a5 z hz
  refine .inr ⟨j+1,e',a,by simp[Instr.findAsking,kT,hq,a1,Result.andThen];omega,by simpa using a2,a3,by simp[dM,hx,a4],?_⟩;intro v;simp[eH,hx,kv,kw,kT,s5];exact a5 v
def ai6{K:Ε->Prop}(hS:SL W l w)(hm:Has (.ob (cM key val b m)) l)(ok:uk P kt key)(ht:P.underlying t=some (.map kt et))(hz:∀w,(zeroValue et).run P w= .ok z w)
  (h:K (.tuple #[((dM m k).map val).getD z,.bool (dM m k).isSome])):dC P (Instr.lookup t (.map (some b)) (key k) true) w K:=by
 obtain⟨es,c,e1,e2,hb⟩:=hS.r9 hm;rcases Co (w:=w) ok k es m 0 e1 with ⟨a1,a2,_,_⟩|⟨j,e,a,a1,_,_,a4,_⟩
 ·refine⟨_,?_,h⟩;simp[Instr.lookup,zzu ht,yyp hb,ok.check,xw ok,a1,hz,Result.andThen,a2]
 refine⟨_,?_,h⟩;simp[Instr.lookup,zzu ht,yyp hb,ok.check,xw ok,a1,Result.andThen,a4]
def QR{v:α}{K:Ε->Ζ->Prop}(hS:SL W l w)(u:dX (.ob (cM key val b m)) (.ob (cM key val b (eH m k v))) l l')(ok:uk P kt key)(ht:P.underlying t=some (.map kt et))
  (h:∀u w',SL W l' w'->K u w'):zR P (do Instr.mapUpdate t (.map (some b)) (key k) (val v);pure undef) w K:=by
 obtain⟨es,c,e1,e2,hb⟩:=hS.r9 u.has;rcases Co (w:=w) ok k es m 0 e1 with ⟨a1,_,a3,a5⟩|⟨j,e,a,a1,a2,a3,_,a5⟩
 ·refine⟨undef,{w with heap:=w.heap.setIfInBounds b (.map (es++[({key:=key k,val:=val v,born:=c}:MapEntry)]).toArray (c+1))},?_,h _ _ (hS.tC u hb (by rw[a3];simp[e1,kv,kw]) ?_)⟩
  ·simp[Instr.mapUpdate,zzu ht,yyp hb,ok.check,xw ok,a1,xx2 _ hb,Result.andThen]
  have:=MapKept.stamped_push e2 (key:=key k) (val:=val v) (by simpa using a5);simpa using this
 refine⟨undef,{w with heap:=w.heap.setIfInBounds b (.map (es.modify j λe=>{e with key:=key k,val:=val v}).toArray c)},?_,h _ _ (hS.tC u hb (a5 v) ?_)⟩
 ·have hj:es.toArray[j]?=some e:=by simpa using a2
  simp[Instr.mapUpdate,zzu ht,yyp hb,ok.check,xw ok,a1,a2,a3,ok.stays,xx2 _ hb,Result.andThen]
 have rP:∀e',es.toArray[j]?=some e'->({e' with key:=key k,val:=val v}:MapEntry).key=e'.key:=λe' jk=>by
  have:es[j]?=some e':=by simpa using jk
  rw[a2]at this;cases this;exact a3.symm
 have:=MapKept.stamped_modify e2 j (λe=>{e with key:=key k,val:=val v}) (λ_ _=>rfl) (λe' _ jk=>rP e' jk);simpa using this
end
def uT(p:Int × Int):Ξ:=[Γ p.1,Γ p.2]
def iY(p:Int × Int):Ε:=agg (uT p)
def Sz(a b:Int × Int)(w:Ζ):(Op.equal 330 (iY a) (iY b)).run prog w= .ok (decide (a=b)) w:=by
 refine D8 uus (by kernel_rfl) ?_;obtain⟨k1,v1⟩:=a;obtain⟨k2,v2⟩:=b;simp[uT,Op.eqFields,part,vvy (h:=xxm),vvy (h:=zz9),Result.andThen];by_cases h0:k1=k2<;>by_cases h1:v1=v2<;>simp[*]
def Nw:uk prog 330 iY where
 wide:=⟨_,uus⟩
 check:=λk em w=>by
  obtain⟨a,b⟩:=k;have h1:(Instr.checkKey em 9999 3 (Γ a)).run prog w= .ok () w:=yy9 (k:=Γ a) zz9 (mf .i64 |>.is a) em 9998;have h2:(Instr.checkKey em 9999 2 (Γ b)).run prog w= .ok () w:=yy9 (k:=Γ b) xxm (mf .i64 |>.is b) em 9998;show (Instr.checkKey em (9999+1) _ _).run prog w=_;unfold Instr.checkKey;simp[iY,uT,zzu uus,part,h1,h2,Result.andThen]
 eq:=Sz
 stays:=λk w=>by
  have:Instr.sameBits 10000 (iY k) (iY k)=true:=by simp[iY,uT,Instr.sameBits]
  simp[Instr.keyThatStays,this]
 inj:=λ{a b} h=>by
  obtain⟨a1,a2⟩:=a;obtain⟨b1,b2⟩:=b;simp[iY,uT]at h
  rw[h.1,h.2]
def awh{W w:Ζ}{l:Β}{α:Type}{enc:α->Ξ}{v:Ε}{t:Ι}{sz j:Nat}{k:IntKind}{xs:List α}{y:α}{K:Ζ->Prop}(hS:SL W (.ob (aY v t sz xs.length (xs.map enc).flatten)::l) w)(hn:∀x,(enc x).length=sz)
  (hj:j<xs.length) (h1:∀v∈enc y,v.oneCell'=true) (hK:∀w',SL W (.ob (aY v t sz (xs.set j y).length ((xs.set j y).map enc).flatten)::l) w'->K w'):zj sz v (.int k (j:Int)) λq=>zn sz q (agg (enc y)) w K:=by
 rcases aY.open hS with ⟨_,h0,_⟩|⟨b,cap,rest,rfl,hc,hlen,ij,hS⟩
 ·omega
 have cA:j*sz+sz<=xs.length*sz:=by
  have:(j+1)*sz<=xs.length*sz:=yy4 _ hj
  rwa [yyo,wwy]at this
 refine zM hj ?_;rw[zz2];refine Qm hS .hd (hn y) (by rw[zza];omega) h1 λw' hS=>hK w' ?_;have e:((xs.map enc).flatten++rest).take (j*sz)++enc y++((xs.map enc).flatten++rest).drop (j*sz+sz)=((xs.set j y).map enc).flatten++rest:=by
  rw[wwg (by omega),wwh (by omega),u9 hn,show j*sz+sz=(j+1)*sz by rw[yyo,wwy],u7 hn,xxl,zzd hj];simp
 rw[e]at hS
 have hl:(xs.set j y).length=xs.length:=yyi;rw[hl];exact aY.mk hc (by rw[nK hn,hl]) ij hS
def qZ(sp:Nat)(ts:List (List Row))(H:aX)(v:Ε)(t:Nat)(l:List Row)(ht:t<ts.length)(hv:bK H 2 v l.length (l.map gw).flatten)(hs:ek l)(hl:l.length<=100000):
  SP 198 [bH sp,Γ (t:Int),v] [.ob (cH sp ts),.mem H] (bj (.bool true) [.ob (cH sp (ts.set t l)),.mem H]):=by
 refine Enzz λW F w hS=>?_;apply aWv;delta ba bG bC;refine Cg (Zq sp ts t) λw hS=>?_;refine Υ ?_;obtain⟨pv,L,hL,hS⟩:=cH.iff.1 hS;have hl2:=se hL;obtain⟨b0,hb⟩:=AX hL ht;refine Gn λw hS=>?_;refine Cc (Z6 H v l hv hl) ?_;clear hS;rintro u post ⟨xb,rfl,rfl⟩ w hS;try simp only[app]at hS
 rw[XU hs]at hS
 refine Gp ?_;refine awh (enc:=mV) (y:=(xb,l)) (SL.bA hS (t:=iK pv L::.ob (ze dq L)::.ob (dq (xb,l))::.pt sp [pv] 247::.mem H::F) Xi) uS (by omega) (by simp[mV,Value.oneCell']) λw hS=>?_;have hS:=ze.take (SL.bA hS (t:=.ob (ze dq L)::.ob (dq (xb,l))::.pt sp [pv] 247::iK pv (L.set t (xb,l))::.mem H::F) Xi) hb;have hS:=ze.put (SL.bA hS (t:=.ob (dq (xb,l))::.ob (ze dq (L.eraseIdx t))::.pt sp [pv] 247::iK pv (L.set t (xb,l))::.mem H::F) Xi) (by omega);have hS:=cH.put (Oj hL t xb l) hS Xp;refine Cg (Zq sp (ts.set t l) t) λw hS=>?_;rw[show decide (0<=(t:Int)/\(t:Int)<((ts.set t l).length:Int))=true from zzr (by rw[yyi];omega)];(exact bt hS)
def LU:∀{C:List Row},ek C->∀(k:Int) (v:Η),(eW C ⟨k,v⟩).length=C.length+if (cP C k).isSome=true then 0 else 1
 | [],_,k,v=>by simp[eW,cP]
 | x::C,h,k,v=>by
  unfold ek at h;rw[yyc]at h
  unfold eW;by_cases h1:x.key<k
  ·have hg:cP (x::C) k=cP C k:=by unfold cP;rw[xxq];simp[show ¬x.key=k by omega]
   rw[zzd h1,zzg,LU (C:=C) h.2 k v,zzg,hg];omega
  rw[zzb h1];by_cases h2:x.key=k
  ·have hg:(cP (x::C) k).isSome=true:=by unfold cP;rw[xxq];simp[h2]
   rw[zzd h2,hg];simp
  have hg:cP (x::C) k=none:=by
   unfold cP;have:(x::C).find? (λc=>decide (c.key=k))=none:=by
    rw[uur];intro y hy;rcases zzv.1 hy with rfl|hy
    ·simpa using h2
    have:=h.1 y hy;simp;omega
   rw[this];rfl
  rw[zzb h2,hg];simp
def JS:∀(C:List Row) (k:Int),((gH C k).length:Int)=C.length-if (cP C k).isSome=true then 1 else 0
 | [],k=>by simp[gH,cP]
 | x::C,k=>by
  unfold gH;by_cases h:x.key=k
  ·have hg:(cP (x::C) k).isSome=true:=by unfold cP;rw[xxq];simp[h]
   rw[zzd h,hg];simp
  have hg:cP (x::C) k=cP C k:=by unfold cP;rw[xxq];simp[h]
  rw[zzb h,hg,zzg,zzg];have:=JS C k;omega
def Y'{C:List Row}(h:ek C)(c:bY):((iE C c).length:Int)=C.length+(if (cP C c.key).isSome=true then (if c.gone=true then -1 else 0) else (if c.gone=true then 0 else 1)):=by
 unfold iE;cases c.gone with
 | true=>
  rw[zzd rfl,JS];split<;>simp<;>omega
 | false=>
  rw[zzb (by decide)];have:=LU h c.key c.val;rw[this];split<;>simp
def Y_{C:List Row}(h:ek C)(c:bY)(k:Int):(cP (iE C c) k).isSome=if c.key=k then !c.gone else (cP C k).isSome:=by
 unfold iE;cases hg:c.gone with
 | true=>
  rw[zzd rfl,Kl h];split<;>rfl
 | false=>
  rw[zzb (by decide),Km];split<;>rfl
def um(ts T:List (List Row))(m:List ((Int × Int) × Bool)):Prop:=∀p:Int × Int,match dM m p with
 | none=>cP (gC T p.1) p.2=cP (gC ts p.1) p.2
 | some b=>(cP (gC T p.1) p.2).isSome=b
def Wz{κ α:Type}[DecidableEq κ](m:List (κ × α))(k:κ)(v:α)(k':κ):dM (eH m k v) k'=if k=k' then some v else dM m k':=by
 induction m with
 | nil=>simp[eH,dM]
 | cons p m ih=>
  unfold eH;by_cases h:p.1=k
  ·rw[zzd h];by_cases h1:k=k'
   ·simp[dM,h1]
   simp[dM,h1,show ¬p.1=k' by rw[h];exact h1]
  rw[zzb h];by_cases h1:p.1=k'
  ·have:¬k=k':=λe=>h (by rw[h1,e]);simp[dM,h1,this]
  simp only[dM,zzb h1];exact ih
def aFz{T:List (List Row)}{c:bY}(hc:fK T.length c=true)(t:Int):gC (gP T c) t=if t=c.table then iE (gC T c.table) c else gC T t:=by
 obtain⟨h0,h1⟩:=zzl hc;unfold gP;by_cases ht:0<=t/\t<(T.length:Int)
 ·obtain⟨n,rfl⟩:∃n:Nat,t=n:=⟨t.toNat,by omega⟩;have hn:n<T.length:=by omega
  rw[mz _ n (by rw[yyi];exact hn),xxr];by_cases e:c.table.toNat=n
  ·rw[zzd e,zzd (by omega)]
  rw[zzb e,zzb (by omega),mz T n hn]
 rw[OG (by rw[yyi];exact ht),zzb (by omega),OG ht]
def um.step{ts T:List (List Row)}{m:List ((Int × Int) × Bool)}(h:um ts T m)(hs:∀C∈T,ek C){c:bY}(hc:fK T.length c=true):um ts (gP T c) (eH m (c.table,c.key) (!c.gone)):=by
 have Lu:=hs _ (A2 (zzl hc));rintro ⟨t,k⟩;rw[Wz];have hk:=h (t,k);simp only at hk ⊢;rw[aFz hc];by_cases e:(c.table,c.key)=(t,k)
 ·rw[zzd e];simp only[xxv]at e;rw[zzd e.1.symm,Y_ Lu,zzd e.2]
 rw[zzb e];simp only[xxv,not_and]at e;by_cases e1:t=c.table
 ·rw[zzd e1];have e2:=e e1.symm;subst e1;have hg:cP (iE (gC T c.table) c) k=cP (gC T c.table) k:=by
   unfold iE;split
   ·rw[Kl Lu,zzb e2]
   rw[Km,zzb e2]
  rw[hg];exact hk
 rw[zzb e1];exact hk
def gS(T:List (List Row)):Ξ:=T.map λC=>Γ (C.length:Nat)
def RB(T:List (List Row)):(gS T).length=T.length:=by simp[gS]
def Jx{T:List (List Row)}{c:bY}{t:Nat}(ht:c.table=t)(h:t<T.length):gS (gP T c)=(gS T).set t (Γ ((iE T[t] c).length:Nat)):=by
 unfold gS gP;rw[vvo,ht,zzy,mz T t h]
def RC{T:List (List Row)}{c:bY}{t:Nat}(ht:c.table=t)(h:t<T.length)(hl:(iE T[t] c).length=T[t].length):gS (gP T c)=gS T:=by
 rw[Jx ht h,hl];unfold gS;rw[<- vvo (f:=λC:List Row=>Γ (C.length:Nat)) (a:=T[t]),List.set_getElem_self]
def BT{T:List (List Row)}{t:Nat}(h:t<T.length):(gS T)[t]?=some (Γ (T[t].length:Nat)):=by simp[gS,h]
def Zz{W w:Ζ}{l:Β}{v u:Ε}{t:Ι}{n j:Nat}{k:IntKind}{cells:Ξ}{K:Ζ->Prop}(hS:SL W (.ob (aY v t 1 n cells)::l) w)(hj:j<n)(h1:u.oneCell'=true)
  (hK:∀w',SL W (.ob (aY v t 1 n (cells.set j u))::l) w'->K w'):zj 1 v (.int k (j:Int)) λq=>cR q u w K:=by
 rcases aY.open hS with ⟨_,h0,_⟩|⟨b,cap,rest,rfl,hc,hlen,ij,hS⟩
 ·omega
 refine zM hj ?_;rw[zz2,wwl];refine ZN hS .hd (zzc (by rw[zza];omega)) h1 λw' hS=>hK w' ?_;rw[wwe _ _ (by omega)]at hS
 exact aY.mk hc (by rw[yyi];exact hlen) ij hS
def JV(t k:Int)(g:Bool)(v:Η):dh ⟨t,k,g,v⟩=[Γ t,Γ k,.bool g,.string v]:=rfl
def qY(sp:Nat)(ts:List (List Row))(H:aX)(v:Ε)(l:List bY)(hv:bK H 4 v l.length (l.map dh).flatten)(hl:l.length<=140737488351232)(hs:∀C∈ts,ek C)(hn:∀C∈ts,C.length<=1000000)(hl6:l.length<=1000000)(vK:ts.length<=1000):
  SP 156 [bH sp,v] [.ob (cH sp ts),.mem H] (bj (.bool (nI ts l)) [.ob (cH sp ts),.mem H]):=by
 refine Enzz λW F w hS=>?_;apply aWc;delta aF bd aW bD bc sH ai bC bn;refine Cg (Yi sp ts H v l hv hl) λw hS=>?_;cases ha:l.all (fK ts.length) with
 | false=>
  refine zt ?_;rw[show nI ts l=false by unfold nI;rw[ha];rfl];(exact bt hS)
 | true=>
  refine zs ?_;have hF:nI ts l=(dV ts l).all λC=>decide (C.length<=1000):=by unfold nI;rw[ha];rfl
  have ha:=zzw.1 ha;obtain⟨pv,L,hL,hS⟩:=cH.iff.1 hS;have KA:=se hL;refine Gp ?_;refine zB hS Xh ?_;refine N3 hS (zzz _) (by omega) (by omega) λnb w hS=>?_;have hS:=aY.full (sz:=1) (n:=L.length) (by rw[jS];rfl) hS;refine Gp ?_;refine zB hS Xh ?_;refine⟨λus w=>∃(i:Nat) (cells:Ξ),us=[Γ i]/\i<=L.length/\cells.length=L.length/\(∀j (h:j<ts.length),j<i->cells[j]?=some (Γ (ts[j].length:Nat)))/\SL W (.ob (aY (.slice (some ⟨nb,0,none⟩) L.length L.length) 3 1 L.length cells)::.pt sp [pv] 247::iK pv L::.ob (ze dq L)::.mem H::F) w,
   λus _=>match us with|[.int _ i]=>(L.length-i).toNat|_=>0,⟨0,bq [Γ 0] L.length,rfl,by omega,by rw[jS];exact wwl _,λj h hj=>by omega,aI hS⟩,?_⟩
  clear hS;rintro v31 w ⟨i,cells,bM,hi,na,j2,hS⟩;cases bM;refine bw (λh=>?_) (λh=>?_)
  ·have bg:i<ts.length:=by omega
   obtain⟨b0,hb⟩:=AX hL bg;refine yK hS Xh uS hb (by omega) ?_;unfold mV;refine Gm λb w hS=>?_;have hS:=ze.take (SL.bA hS (t:=.ob (ze dq L)::.ob (aY (.slice (some ⟨nb,0,none⟩) L.length L.length) 3 1 L.length cells)::.pt sp [pv] 247::iK pv L::.mem H::F) Xi) hb;refine Cc (QC b0 ts[i]) ?_;clear hS;rintro u post ⟨rfl,rfl⟩ w hS;try simp only[app]at hS
   have hS:=ze.back hS hb;refine Zz (SL.bA hS (t:=.ob (aY (.slice (some ⟨nb,0,none⟩) L.length L.length) 3 1 L.length cells)::.pt sp [pv] 247::iK pv L::.ob (ze dq L)::.mem H::F) Xi) (by omega) rfl λw hS=>?_;refine Gp ?_;refine⟨⟨i+1,_,rfl,by omega,by rw[yyi];exact na,λj hj gJ=>?_,hS⟩,by dsimp only;omega⟩;rw[List.getElem?_set];by_cases e:i=j
   ·subst e;rw[zzd rfl,zzd (by omega)]
   rw[zzb e];exact j2 j hj (by omega)
  obtain rfl:i=L.length:=by omega
  have TI:cells=gS ts:=by
   refine vv8 λj=>?_;rcases ww0 j ts.length with hj|hj
   ·rw[j2 j hj (by omega),BT hj]
   rw[yys (by omega),yys (by rw[RB];omega)]
  subst TI;clear j2 na;have hS:=cH.put hL hS Xp;clear hL;refine zh hv ?_;have hS:=hS.DD (key:=iY) (val:=Value.bool);generalize w.heap.size=mb at *
  generalize w.alloc (.map #[] 0)=w at *
  rw[show gS ts=gS (dV ts (l.take 0)) from rfl]at hS
  refine⟨λus w=>∃(i:Nat) (m:List ((Int × Int) × Bool)),us=[Γ i]/\i<=l.length/\um ts (dV ts (l.take i)) m/\SL W (.ob (cH sp ts)::.ob (cM iY Value.bool mb m)::.ob (aY (.slice (some ⟨nb,0,none⟩) L.length L.length) 3 1 L.length (gS (dV ts (l.take i))))::.mem H::F) w,
   λus _=>match us with|[.int _ i]=>(l.length-i).toNat|_=>0,⟨0,[],rfl,by omega,λp=>rfl,aI hS⟩,?_⟩
  clear hS;rintro v46 w ⟨i,m,bM,hi,hM,hS⟩;cases bM;refine bw (λh=>?_) (λh=>?_)
  ·have bg:i<l.length:=by omega
   have gd:dV ts (l.take (i+1))=gP (dV ts (l.take i)) l[i]:=by rw[zzh bg,Jb]
   have jl:=ha _ (zzi bg);have pB:=pk ts (l.take i);have nQ:=wZ (l:=l.take i) hs λc hc=>ha c (xxi hc);have rJ:=wY 1000000 (l:=l.take i) hn λc hc=>ha c (xxi hc);have Dg:(l.take i).length<=l.length:=by rw[zzn];omega
   generalize dV ts (l.take i)=T at *
   refine zy hS Xh kM hv (x:=l[i]) (by simp[bg]) bg ?_;generalize l[i]=c at *
   obtain⟨ct,ck,cg,cv⟩:=c;obtain⟨h0,h1⟩:0<=ct/\ct<(ts.length:Int):=zzl jl;obtain⟨t,rfl⟩:∃n:Nat,ct=n:=⟨ct.toNat,by omega⟩;have ht:t<T.length:=by omega
   have nh:t<ts.length:=by omega
   have rX:T[t]∈T:=zzi ht;have cA:=rJ _ rX;have nN:=hM (t,ck);have kr:=hM.step nQ (c:=⟨t,ck,cg,cv⟩) (by rw[pB];exact jl);have rN:=Y' (nQ _ rX) ⟨t,ck,cg,cv⟩;simp only at nN kr rN;rw[mz T t ht,mz ts t nh]at nN
   rw[<- gd]at kr
   clear hM;rw[JV];refine Gb λcb w hS=>?_;refine Gb λpb w hS=>?_;refine ai6 (key:=iY) (val:=Value.bool) (z:=.bool false) (k:=((t:Int),ck)) hS Xh Nw underlying328 (λw=>by kernel_rfl) ?_;refine Gp ?_;refine⟨λus w=>us=[.bool (cP T[t] ck).isSome]/\SL W (.pt pb [Γ t,Γ ck] 330::.pt cb [Γ t,Γ ck,.bool cg,.string cv] 70::.ob (cH sp ts)::.ob (cM iY Value.bool mb m)::.ob (aY (.slice (some ⟨nb,0,none⟩) L.length L.length) 3 1 L.length (gS T))::.mem H::F) w,?_,?_⟩
   ·cases y_:dM m ((t:Int),ck) with
    | none=>
     rw[y_]at nN
     refine yb (zt ?_);have nN:cP T[t] ck=cP ts[t] ck:=nN;obtain⟨pv,L2,hL,hS⟩:=cH.iff.1 (SL.bA hS (t:=.ob (cH sp ts)::.pt pb [Γ t,Γ ck] 330::.pt cb [Γ t,Γ ck,.bool cg,.string cv] 70::.ob (cM iY Value.bool mb m)::.ob (aY (.slice (some ⟨nb,0,none⟩) L.length L.length) 3 1 L.length (gS T))::.mem H::F) Xi);obtain⟨b0,hb⟩:=AX hL nh;have bcf:=se hL;refine Gn λw hS=>?_;refine zX hS Xh uS hb (by omega) (i:=0) rfl ?_;refine Gp ?_;have hS:=ze.take (SL.bA hS (t:=.ob (ze dq L2)::.pt sp [pv] 247::iK pv L2::.pt pb [Γ t,Γ ck] 330::.pt cb [Γ t,Γ ck,.bool cg,.string cv] 70::.ob (cM iY Value.bool mb m)::.ob (aY (.slice (some ⟨nb,0,none⟩) L.length L.length) 3 1 L.length (gS T))::.mem H::F) Xi) hb;refine Cc (QB b0 ts[t] ck (hs _ (zzi nh)) (hn _ (zzi nh))) ?_;clear hS;rintro u post ⟨rfl,rfl⟩ w hS;try simp only[app]at hS
     have hS:=cH.put hL (ze.back hS hb) Xp;unfold Kk;refine Gp ?_;exact⟨by rw[nN],aI hS⟩
    | some q=>
     rw[y_]at nN
     have nN:(cP T[t] ck).isSome=q:=nN;refine yb (zs ?_);exact⟨by rw[nN];rfl,aI hS⟩
   clear hS;rintro v12 w ⟨bM,hS⟩;cases bM;refine Gp ?_;refine QR (key:=iY) (val:=Value.bool) (k:=((t:Int),ck)) (v:=!cg) hS Xu Nw underlying328 λ_ w hS=>?_;have gI:∀{w:Ζ} {cells:Ξ},cells=gS (dV ts (l.take (i+1)))->SL W (.ob (aY (.slice (some ⟨nb,0,none⟩) L.length L.length) 3 1 L.length cells)::.ob (cH sp ts)::.ob (cM iY Value.bool mb (eH m ((t:Int),ck) (!cg)))::.mem H::F) w ->
     ∃(i':Nat) (m':List ((Int × Int) × Bool)),[Γ ((i+1:Nat):Int)]=[Γ i']/\i'<=l.length/\um ts (dV ts (l.take i')) m'/\SL W (.ob (cH sp ts)::.ob (cM iY Value.bool mb m')::.ob (aY (.slice (some ⟨nb,0,none⟩) L.length L.length) 3 1 L.length (gS (dV ts (l.take i'))))::.mem H::F) w:=λe hS=>by
    subst e;exact⟨i+1,_,rfl,by omega,kr,aI hS⟩
   have KO:=BT ht;have CF:=Jx (T:=T) (c:=⟨t,ck,cg,cv⟩) rfl ht;have Da:=RC (T:=T) (c:=⟨t,ck,cg,cv⟩) rfl ht;rw[<- gd]at CF Da
   refine⟨λus w=>us=[.bool ((cP T[t] ck).isSome && cg)]/\SL W (.pt cb [Γ t,Γ ck,.bool cg,.string cv] 70::.ob (cH sp ts)::.ob (cM iY Value.bool mb (eH m ((t:Int),ck) (!cg)))::.ob (aY (.slice (some ⟨nb,0,none⟩) L.length L.length) 3 1 L.length (gS T))::.mem H::F) w,?_,?_⟩
   ·cases (cP T[t] ck).isSome with
    | false=>
     refine Gp ?_;exact⟨rfl,aI hS⟩
    | true=>
     refine Gp ?_;exact⟨by simp,aI hS⟩
   clear hS;rintro OU w ⟨bM,hS⟩;cases bM;cases hw:(cP T[t] ck).isSome<;>cases cg<;>rw[hw]at rN
   ·refine zs (yb (zt ?_));refine Gp ?_;refine zt ?_;refine Gp ?_;refine yp hS Xh (by omega) KO ?_;refine Gp ?_;refine Zz (SL.bA hS (t:=.ob (aY (.slice (some ⟨nb,0,none⟩) L.length L.length) 3 1 L.length (gS T))::.ob (cH sp ts)::.ob (cM iY Value.bool mb (eH m ((t:Int),ck) (!false)))::.mem H::F) Xi) (by omega) rfl λw hS=>?_;refine Gp ?_;exact⟨gI (by rw[CF];congr 2;simp at rN;omega) hS,by dsimp only;omega⟩
   ·refine zs (yb (zt ?_));refine Gp ?_;refine zs ?_;refine Gp ?_;exact⟨gI (Da (by simp at rN;omega)).symm (aI hS),by dsimp only;omega⟩
   ·refine zs (yb (zs ?_));refine Gp ?_;exact⟨gI (Da (by simp at rN;omega)).symm (aI hS),by dsimp only;omega⟩
   refine zt ?_;refine Gp ?_;refine yp hS Xh (by omega) KO ?_;refine Gp ?_;refine Zz (SL.bA hS (t:=.ob (aY (.slice (some ⟨nb,0,none⟩) L.length L.length) 3 1 L.length (gS T))::.ob (cH sp ts)::.ob (cM iY Value.bool mb (eH m ((t:Int),ck) (!true)))::.mem H::F) Xi) (by omega) rfl λw hS=>?_;refine Gp ?_;exact⟨gI (by rw[CF];congr 2;simp at rN;omega) hS,by dsimp only;omega⟩
  obtain rfl:i=l.length:=by omega
  rw[zz6]at hS
  have pB:=pk ts l;generalize dV ts l=T at *
  refine Gp ?_;refine⟨λus w=>∃j:Nat,us=[Γ j]/\j<=T.length/\(∀k (h:k<T.length),k<j->T[k].length<=1000)/\SL W (.ob (cH sp ts)::.ob (aY (.slice (some ⟨nb,0,none⟩) L.length L.length) 3 1 L.length (gS T))::.mem H::F) w,
   λus _=>match us with|[.int _ i]=>(T.length-i).toNat|_=>0,⟨0,rfl,by omega,λk h hk=>by omega,aI hS⟩,?_⟩
  clear hS;rintro bd5 w ⟨j,bM,hj,b5,hS⟩;cases bM;refine bw (λh=>?_) (λh=>?_)
  ·have l8:j<T.length:=by omega
   refine yp hS Xh (by omega) (BT l8) ?_;refine bw (λh2=>?_) (λh2=>?_)
   ·rw[hF,show (T.all λC=>decide (C.length<=1000))=false from uu0.2 ⟨_,zzi l8,by simp;omega⟩];(exact bt hS)
   refine Gp ?_;refine⟨⟨j+1,rfl,by omega,λk hk CZ=>?_,hS⟩,by dsimp only;omega⟩;by_cases e:k=j
   ·subst e;omega
   exact b5 k hk (by omega)
  rw[hF,show (T.all λC=>decide (C.length<=1000))=true from zzw.2 λC hC=>by
   obtain⟨k,hk,rfl⟩:=yyf hC;exact zzr (b5 k hk (by omega))]
  (exact bt hS)
def YU(c:bY)(k:Int):SP 192 [agg (dh c),Γ k] [] (bj (.bool (fQ c k)) []):=by
 refine Enzz λW F w hS=>?_;apply aWp;delta aF aW bD bc ai;refine zu hS λb w hS=>?_;unfold dh at hS;have hF:∀{w:Ζ},¬(0<=c.table/\c.table<k/\1<=c.key/\c.key<=1099511627776/\c.val.size<=32)->SL W (.pt b [Γ c.table,Γ c.key,.bool c.gone,.string c.val] 70::F) w ->
   ∃post,bj (.bool (fQ c k)) [] (.bool false) post/\SL W (app post F) w:=λh hS=>⟨_,⟨by rw[show fQ c k=false by unfold fQ;rw[yyq];exact λk=>h ⟨k.1,k.2.1,k.2.2.1,k.2.2.2.1,k.2.2.2.2.1⟩],rfl⟩,aI hS⟩
 refine Gp ?_;refine za (λ_=>hF (by omega) hS) (λ_=>?_);refine Gp ?_;refine za (λ_=>hF (by omega) hS) (λ_=>?_);refine Gp ?_;refine za (λ_=>hF (by omega) hS) (λ_=>?_);refine Gp ?_;refine za (λ_=>hF (by omega) hS) (λ_=>?_);(repeat (first|refine Gp ?_|refine Gw λw hS=>?_|refine za (λ_=>hF (by omega) hS) (λ_=>?_)|refine za (λ_=>?_) (λ_=>hF (by omega) hS)))
 have e:fQ c k=decide (c.gone=true->c.val=emp):=by
  unfold fQ;rw[yyd];exact⟨λh=>h.2.2.2.2.2,λh=>⟨by omega,by omega,by omega,by omega,by omega,h⟩⟩
 rw[e];refine zr (λh=>?_) (λh=>?_)
 ·rw[h,zzr (by simp)];(exact bt hS)
 refine Gp ?_;rw[h];have e2:decide (true=true->c.val=emp)=decide (c.val={data:=#[]}):=by rw[yyd];exact⟨λh=>h rfl,λh _=>h⟩
 rw[e2];(exact bt hS)
def Ax{t:bS}(h:¬(1<=t.aR/\t.aR<=1099511627776)):cI t=false:=by
 unfold cI;rw[zz5 h];rfl
def tD{t:bS}(hk:t.kind=1)(h:¬(t.mark=0/\t.changes.length<=16/\t.signals.length<=2)):cI t=false:=by
 unfold cI;rw[zzd hk,zz5 h];simp
def MH{t:bS}{i:Nat}(hk:t.kind=1)(hi:i<t.changes.length)(h:fQ t.changes[i] 8=false):cI t=false:=by
 cases hm:cI t with
 | false=>rfl
 | true=>
  rw[(iW hm).2.2.2.2.2.1 _ (zzi hi)]at h;cases h
def MI{t:bS}{i:Nat}(hk:t.kind=1)(hi:i<t.signals.length)(h:¬t.signals[i].size<=40):cI t=false:=by
 cases hm:cI t with
 | false=>rfl
 | true=>exact absurd ((iW hm).2.2.2.2.2.2 _ (zzi hi)) h
def MM{t:bS}(hl:1<=t.aR/\t.aR<=1099511627776)(hk:t.kind=1)(h:t.mark=0/\t.changes.length<=16/\t.signals.length<=2)(h1:∀j (hj:j<t.changes.length),fQ t.changes[j] 8=true)(h2:∀j (hj:j<t.signals.length),t.signals[j].size<=40):cI t=true:=by
 refine tE.2 ⟨hl,.inl ⟨hk,h.1,h.2.1,h.2.2,λc hc=>?_,λs hs=>?_⟩⟩
 ·obtain⟨j,hj,rfl⟩:=yyf hc;exact h1 j hj
 obtain⟨j,hj,rfl⟩:=yyf hs;exact h2 j hj
def MJ{t:bS}(hl:1<=t.aR/\t.aR<=1099511627776)(hk:t.kind=2\/t.kind=3):cI t=decide (1<=t.mark/\t.mark<=1099511627776/\t.changes.length=0/\t.signals.length=0):=by
 rw[xxg,tE,zzo];simp only[yyr];constructor
 ·rintro ⟨_,h|h⟩
  ·omega
  exact h.2
 exact λh=>⟨hl,.inr ⟨hk,h⟩⟩
def ML{t:bS}(h:¬(1<=t.kind/\t.kind<=3)):cI t=false:=by
 cases hm:cI t with
 | false=>rfl
 | true=>exact absurd (iW hm).2.1 h
abbrev kH(b:Nat)(x:mM)(t:bS):Μ:=.pt b [Γ t.aR,Γ t.kind,x.cv,x.sv,Γ t.mark] 106
def YV(H:aX)(x:mM)(t:bS)(hx:mL H x t)(hl:1<=t.aR/\t.aR<=1099511627776)(hk:t.kind=1):SP 140 [agg (fj x)] [.mem H] (bj (.bool (cI t)) [.mem H]):=by
 refine Enzz λW F w hS=>?_;apply aRw;delta aF aW bD bc ai bn;refine zu hS λxb w hS=>?_;unfold fj at hS;rw[hx.aR,hx.kind,hx.mark]at hS
 have hF:∀{w:Ζ},cI t=false->SL W (kH xb x t::.mem H::F) w->∃post,bj (.bool (cI t)) [.mem H] (.bool false) post/\SL W (app post F) w:=λh hS=>⟨_,⟨by rw[h],rfl⟩,aI hS⟩;refine Gp ?_;refine za (λh=>hF (tD hk (by omega)) hS) (λh1=>?_);refine Gp ?_;refine zh hx.cv ?_;refine Gp ?_;refine za (λh=>hF (tD hk (by omega)) hS) (λh2=>?_);refine Gp ?_;refine zh hx.sv ?_;refine Gp ?_;refine za (λh=>hF (tD hk (by omega)) hS) (λh3=>?_);refine Gp ?_;refine zh hx.cv ?_;refine⟨λvs w=>∃i:Nat,vs=[Γ i]/\i<=t.changes.length/\(∀j (hj:j<t.changes.length),j<i->fQ t.changes[j] 8=true)/\SL W (kH xb x t::.mem H::F) w,
  λvs _=>match vs with|[.int _ i]=>(t.changes.length-i).toNat|_=>0,⟨0,rfl,by omega,λj hj h=>by omega,hS⟩,?_⟩
 clear hS;rintro v3 w ⟨i,b9,hi,b5,hS⟩;cases b9;refine bw (λh=>?_) (λh=>?_)
 ·have bg:i<t.changes.length:=by omega
  refine zy hS Xh kM hx.cv (x:=t.changes[i]) (by simp[bg]) bg ?_;refine Gm λb w hS=>?_;refine Cg (YU t.changes[i] 8) λw hS=>?_;refine zr (λh=>hF (MH hk bg h) (aI hS)) (λh=>?_);refine Gp ?_;refine⟨⟨i+1,rfl,by omega,λj hj gJ=>?_,aI hS⟩,by dsimp only;omega⟩;by_cases e:j=i
  ·subst e;exact h
  exact b5 j hj (by omega)
 have eM:i=t.changes.length:=by omega
 have dH:∀j (hj:j<t.changes.length),fQ t.changes[j] 8=true:=λj hj=>b5 j hj (by omega);clear b5;refine Gp ?_;refine zh hx.sv ?_;refine⟨λvs w=>∃i:Nat,vs=[Γ i]/\i<=t.signals.length/\(∀j (hj:j<t.signals.length),j<i->t.signals[j].size<=40)/\SL W (kH xb x t::.mem H::F) w,
  λvs _=>match vs with|[.int _ i]=>(t.signals.length-i).toNat|_=>0,⟨0,rfl,by omega,λj hj h=>by omega,aI hS⟩,?_⟩
 clear hS;rintro v5 w ⟨i,b9,hi,b5,hS⟩;cases b9;refine bw (λh=>?_) (λh=>?_)
 ·have bg:i<t.signals.length:=by omega
  refine yg hS Xh hx.sv bg (u:=.string t.signals[i]) (by simp[bg]) ?_;refine Gp ?_;refine za (λh=>hF (MI hk bg (by omega)) (aI hS)) (λh=>?_);refine Gp ?_;refine⟨⟨i+1,rfl,by omega,λj hj gJ=>?_,aI hS⟩,by dsimp only;omega⟩;by_cases e:j=i
  ·subst e;omega
  exact b5 j hj (by omega)
 rw[MM hl hk (by omega) dH λj hj=>b5 j hj (by omega)];(exact bt hS)
def yy(H:aX)(x:mM)(t:bS)(hx:mL H x t):SP 105 [agg (fj x)] [.mem H] (bj (.bool (cI t)) [.mem H]):=by
 refine Enzz λW F w hS=>?_;apply aI6;delta aF aW bc ai;refine zu hS λxb w hS=>?_;unfold fj at hS;rw[hx.aR,hx.kind,hx.mark]at hS
 have hF:∀{w:Ζ},cI t=false->SL W (kH xb x t::.mem H::F) w->∃post,bj (.bool (cI t)) [.mem H] (.bool false) post/\SL W (app post F) w:=λh hS=>⟨_,⟨by rw[h],rfl⟩,aI hS⟩;refine Gp ?_;refine za (λh=>hF (Ax (by omega)) hS) (λh1=>?_);refine Gp ?_;refine za (λh=>hF (Ax (by omega)) hS) (λh2=>?_);refine bw (λhk=>?_) (λhk=>?_)
 ·refine Gp ?_;have iS:mL H ⟨t.aR,t.kind,x.cv,x.sv,t.mark⟩ t:=⟨rfl,rfl,rfl,hx.cv,hx.sv⟩;refine Cg (YV H ⟨t.aR,t.kind,x.cv,x.sv,t.mark⟩ t iS (by omega) hk) λw hS=>?_;(exact bt hS)
 refine⟨λvs w=>vs=[.bool (decide (t.kind=2\/t.kind=3))]/\SL W (kH xb x t::.mem H::F) w,?_,?_⟩
 ·refine Gp ?_;refine za (λh=>⟨by rw[zzr (Or.inl h)],hS⟩) (λh=>?_);refine Gp ?_;exact⟨by rw[show decide (t.kind=3)=decide (t.kind=2\/t.kind=3) from yyd.2 ⟨Or.inr,λh'=>by omega⟩],hS⟩
 clear hS;rintro v17 w ⟨hv,hS⟩;cases hv;refine za (λfm=>?_) (λfm=>hF (ML (by omega)) hS);have hM:=MJ (t:=t) (by omega) fm;have kq:∀{w:Ζ},¬(1<=t.mark/\t.mark<=1099511627776/\t.changes.length=0/\t.signals.length=0)->SL W (kH xb x t::.mem H::F) w->∃post,bj (.bool (cI t)) [.mem H] (.bool false) post/\SL W (app post F) w:=λh hS=>hF (by rw[hM,zz5 h]) hS;refine Gp ?_;refine za (λh3=>?_) (λh3=>kq (by omega) hS);refine Gp ?_;refine za (λh4=>?_) (λh4=>kq (by omega) hS);refine Gp ?_;refine zh hx.cv ?_;refine Gp ?_;refine za (λh5=>?_) (λh5=>kq (by omega) hS);refine Gp ?_;refine zh hx.sv ?_;refine Gp ?_;rw[hM,show decide (1<=t.mark/\t.mark<=1099511627776/\t.changes.length=0/\t.signals.length=0)=decide ((t.signals.length:Int)=0) from yyd.2 ⟨λh=>by omega,λh=>by omega⟩];(exact bt hS)
def Y5(H:aX)(x:mM)(t:bS)(hx:mL H x t):SP 62 [agg (fj x)] [.mem H] (bj (.bool (cI t)) [.mem H]):=by
 refine Enzz λW F w hS=>?_;apply a_f;delta aF aW bD bc ai;refine zu hS λxb w hS=>?_;unfold fj at hS;rw[hx.aR,hx.kind,hx.mark]at hS
 have hF:∀{w:Ζ},cI t=false->SL W (kH xb x t::.mem H::F) w->∃post,bj (.bool (cI t)) [.mem H] (.bool false) post/\SL W (app post F) w:=λh hS=>⟨_,⟨by rw[h],rfl⟩,aI hS⟩;refine Gp ?_;refine za (λh=>hF (Ax (by omega)) hS) (λh1=>?_);refine Gp ?_;refine za (λh=>hF (Ax (by omega)) hS) (λh2=>?_);refine bw (λhk=>?_) (λhk=>?_)
 ·refine Gp ?_;refine za (λh=>hF (tD hk (by omega)) hS) (λh1=>?_);refine Gp ?_;refine zh hx.cv ?_;refine Gp ?_;refine za (λh=>hF (tD hk (by omega)) hS) (λh2=>?_);refine Gp ?_;refine zh hx.sv ?_;refine Gp ?_;refine za (λh=>hF (tD hk (by omega)) hS) (λh3=>?_);refine⟨λvs w=>∃i:Nat,vs=[Γ i]/\i<=t.changes.length/\(∀j (hj:j<t.changes.length),j<i->fQ t.changes[j] 8=true)/\SL W (kH xb x t::.mem H::F) w,
   λvs _=>match vs with|[.int _ i]=>(t.changes.length-i).toNat|_=>0,⟨0,rfl,by omega,λj hj h=>by omega,hS⟩,?_⟩
  clear hS;rintro v3 w ⟨i,b9,hi,b5,hS⟩;cases b9;refine Gp ?_;refine zh hx.cv ?_;refine bw (λh=>?_) (λh=>?_)
  ·have bg:i<t.changes.length:=by omega
   refine Gp ?_;refine zy hS Xh kM hx.cv (x:=t.changes[i]) (by simp[bg]) bg ?_;refine Cg (Y4 t.changes[i] 8) λw hS=>?_;refine zr (λh=>hF (MH hk bg h) (aI hS)) (λh=>?_);refine Gp ?_;refine⟨⟨i+1,rfl,by omega,λj hj gJ=>?_,aI hS⟩,by dsimp only;omega⟩;by_cases e:j=i
   ·subst e;exact h
   exact b5 j hj (by omega)
  have eM:i=t.changes.length:=by omega
  have dH:∀j (hj:j<t.changes.length),fQ t.changes[j] 8=true:=λj hj=>b5 j hj (by omega);clear b5;refine⟨λvs w=>∃i:Nat,vs=[Γ i]/\i<=t.signals.length/\(∀j (hj:j<t.signals.length),j<i->t.signals[j].size<=40)/\SL W (kH xb x t::.mem H::F) w,
   λvs _=>match vs with|[.int _ i]=>(t.signals.length-i).toNat|_=>0,⟨0,rfl,by omega,λj hj h=>by omega,aI hS⟩,?_⟩
  clear hS;rintro v5 w ⟨i,b9,hi,b5,hS⟩;cases b9;refine Gp ?_;refine zh hx.sv ?_;refine bw (λh=>?_) (λh=>?_)
  ·have bg:i<t.signals.length:=by omega
   refine Gp ?_;refine yg hS Xh hx.sv bg (u:=.string t.signals[i]) (by simp[bg]) ?_;refine Gp ?_;refine za (λh=>hF (MI hk bg (by omega)) (aI hS)) (λh=>?_);refine Gp ?_;refine⟨⟨i+1,rfl,by omega,λj hj gJ=>?_,aI hS⟩,by dsimp only;omega⟩;by_cases e:j=i
   ·subst e;omega
   exact b5 j hj (by omega)
  rw[MM (by omega) hk (by omega) dH λj hj=>b5 j hj (by omega)];(exact bt hS)
 refine⟨λvs w=>vs=[.bool (decide (t.kind=2\/t.kind=3))]/\SL W (kH xb x t::.mem H::F) w,?_,?_⟩
 ·refine Gp ?_;refine za (λh=>⟨by rw[zzr (Or.inl h)],hS⟩) (λh=>?_);refine Gp ?_;exact⟨by rw[show decide (t.kind=3)=decide (t.kind=2\/t.kind=3) from yyd.2 ⟨Or.inr,λh'=>by omega⟩],hS⟩
 clear hS;rintro v17 w ⟨hv,hS⟩;cases hv;refine za (λfm=>?_) (λfm=>hF (ML (by omega)) hS);have hM:=MJ (t:=t) (by omega) fm;have kq:∀{w:Ζ},¬(1<=t.mark/\t.mark<=1099511627776/\t.changes.length=0/\t.signals.length=0)->SL W (kH xb x t::.mem H::F) w->∃post,bj (.bool (cI t)) [.mem H] (.bool false) post/\SL W (app post F) w:=λh hS=>hF (by rw[hM,zz5 h]) hS;refine Gp ?_;refine za (λh3=>?_) (λh3=>kq (by omega) hS);refine Gp ?_;refine za (λh4=>?_) (λh4=>kq (by omega) hS);refine Gp ?_;refine zh hx.cv ?_;refine Gp ?_;refine za (λh5=>?_) (λh5=>kq (by omega) hS);refine Gp ?_;refine zh hx.sv ?_;refine Gp ?_;rw[hM,show decide (1<=t.mark/\t.mark<=1099511627776/\t.changes.length=0/\t.signals.length=0)=decide ((t.signals.length:Int)=0) from yyd.2 ⟨λh=>by omega,λh=>by omega⟩];(exact bt hS)
section
variable (b:Nat) (x1 x2 x3:Int) (t:Ι)
def LW:SP 22 [.slice (some ⟨b,0,none⟩) 3 3] [.pt b [Γ x1,Γ x2,Γ x3] t] (λu post=>post=[e_ u [iF x1,iF x2,iF x3]]):=yT b [x1,x2,x3] t (by simp)
end
def wC(H:aX)(t:bS)(u:Ε)(post:Β):Prop:=match pw t with
 | .error e=>u= .tuple #[Θ,Γ e]/\post=[.mem H]
 | .ok b=>∃v,u= .tuple #[v,Γ 0]/\post=[.ob (aY v 5 1 b.length (b.map bo)),.mem H]
def lC(t:bS)(i:Nat):List bz:=[iF t.aR,iF t.kind,iF t.mark,iF t.changes.length]++((t.changes.take i).map fI).flatten
def mW(t:bS)(i:Nat):List bz:=lC t t.changes.length++[iF t.signals.length]++(t.signals.take i).map tF
def SB{t:bS}{i:Nat}(h:i<t.changes.length):lC t (i+1)=lC t i++fI t.changes[i]:=by
 unfold lC;rw[zzh h,zzx,yy1,wwc,uua,zze]
def SE{t:bS}{i:Nat}(h:i<t.signals.length):mW t (i+1)=mW t i++[tF t.signals[i]]:=by
 unfold mW;rw[zzh h,zzx,wwc,<- zze]
def SC(t:bS):mW t t.signals.length=gV t:=by
 unfold mW lC gV;simp
def J6(t:bS)(i:Nat):(lC t i).length<=4+4*i:=by
 unfold lC;rw[zza,Ke (n:=4) (λ_=>rfl),zzn];simp;omega
def SD(t:bS)(i:Nat):(mW t i).length<=5+4*t.changes.length+i:=by
 have:=J6 t t.changes.length;unfold mW;rw[zza,zza,yyh,zzn];simp;omega
def qI(H:aX)(x:mM)(t:bS)(hx:mL H x t):SP 157 [agg (fj x)] [.mem H] (wC H t):=by
 refine Enzz λW F w hS=>?_;apply aWd;delta aF aW ba bD ai bn aZ;refine zu hS λxb w hS=>?_;refine Gp ?_;refine Cg (yy H x t hx) λw hS=>?_;refine zr (λh=>?_) (λhm=>?_)
 ·exact⟨[.mem H],by unfold wC pw;rw[zzb (by rw[h];decide)];exact⟨rfl,rfl⟩,aI hS⟩
 have hb:=iW hm;unfold fj at hS;rw[hx.aR,hx.kind,hx.mark]at hS
 refine Gp ?_;refine zh hx.cv ?_;refine Gm λb w hS=>?_;refine Cc (Vq b t.aR t.kind t.mark t.changes.length 2) ?_;clear hS;rintro u post rfl w hS;(try simp only[app]at hS);refine Gp ?_
 refine zh hx.cv ?_;have hS:SL W (e_ u (lC t 0)::_) _:=hS;refine⟨λvs w=>∃(i:Nat) (u:Ε),vs=[u,Γ i]/\i<=t.changes.length/\SL W (e_ u (lC t i)::kH xb x t::.mem H::F) w,
  λvs _=>match vs with|[_,.int _ i]=>(t.changes.length-i).toNat|_=>0,⟨0,_,rfl,by omega,aI hS⟩,?_⟩
 clear hS;rintro u v3 w ⟨i,_,b9,hi,hS⟩;cases b9;have lE:=J6 t i;refine bw (λh=>?_) (λh=>?_)
 ·have bg:i<t.changes.length:=by omega
  have hs:=SB bg;refine zy hS Xh kM hx.cv (x:=t.changes[i]) (by simp[bg]) bg ?_;generalize t.changes[i]=o at *
  obtain⟨ot,ok,og,ov⟩:=o;refine Gm λb w hS=>?_;unfold dh at hS;refine Cg (Yd og) λw hS=>?_;refine Gm λb w hS=>?_;refine Cc (LW b ot ok (jh og) 2) ?_;clear hS;rintro u2 post rfl w hS;try simp only[app]at hS
  refine zz (L:=lC t i) hS Xr (iG hS Xh) (by simp;omega) λu3 w hS=>?_;refine Gp ?_;refine Cg (yH ov) λw hS=>?_;refine Gm λb w hS=>?_;refine zz (M:=[tF ov]) hS Xr (oh hS Xh) (by simp;omega) λu4 w hS=>?_;refine Gp ?_;refine⟨⟨i+1,_,rfl,by omega,?_⟩,by dsimp only;omega⟩;rw[hs];simp only[zze]at hS;have hS:SL W (e_ _ (lC t i++fI ⟨ot,ok,og,ov⟩)::_) _:=hS;exact aI hS
 have eM:i=t.changes.length:=by omega
 subst eM;refine Gp ?_;refine zh hx.sv ?_;refine Gm λb w hS=>?_;refine Cc (pN b t.signals.length 2) ?_;clear hS;rintro u2 post rfl w hS;try simp only[app]at hS
 refine zz (L:=lC t t.changes.length) hS Xr (iG hS Xh) (by simp;omega) λu3 w hS=>?_;refine Gp ?_;refine zh hx.sv ?_;refine⟨λvs w=>∃(i:Nat) (u:Ε),vs=[u,Γ i]/\i<=t.signals.length/\SL W (e_ u (mW t i)::kH xb x t::.mem H::F) w,
  λvs _=>match vs with|[_,.int _ i]=>(t.signals.length-i).toNat|_=>0,⟨0,u3,rfl,by omega,?_⟩,?_⟩
 ·rw[show mW t 0=lC t t.changes.length++[iF t.signals.length] by unfold mW;simp];exact aI hS
 clear hS;rintro u v3 w ⟨i,_,b9,hi,hS⟩;cases b9;have vh:=SD t i;refine bw (λh=>?_) (λh=>?_)
 ·have bg:i<t.signals.length:=by omega
  have hs:=SE bg;refine yg hS Xh hx.sv bg (u:=.string t.signals[i]) (by simp[bg]) ?_;refine Cg (yH t.signals[i]) λw hS=>?_;refine Gm λb w hS=>?_;refine zz (L:=mW t i) (M:=[tF t.signals[i]]) hS Xr (oh hS Xh) (by simp;omega) λu3 w hS=>?_;refine Gp ?_;refine⟨⟨i+1,_,rfl,by omega,?_⟩,by dsimp only;omega⟩;rw[hs];exact aI hS
 have eM:i=t.signals.length:=by omega
 subst eM;rw[SC]at hS vh
 refine Cc (yN (e_ u (gV t)) u (gV t) jU.own (by omega)) ?_;clear hS;rintro r post hq w hS;try simp only[app]at hS
 unfold lr at hq;unfold wC pw;rw[zzd hm];cases he:gl (gV t) with
 | error e=>
  rw[he]at hq
  obtain⟨rfl,rfl⟩:=hq;(try simp only[app]at hS);refine Gp ?_
  exact bt hS
 | ok bs=>
  rw[he]at hq
  obtain⟨v,rfl,rfl⟩:=hq;(try simp only[app]at hS);refine Gp ?_
  exact⟨_,⟨v,rfl,rfl⟩,aI hS⟩
def SL.Ao{W w:Ζ}{l:Β}{H:aX}{b:Nat}{cs:Ξ}{t:Ι}(h:SL W (.mem H::.pt b cs t::l) w):
  ∃H',H.le H'/\(∀o v,cs[o]?=some v->H'.cell b o=some v)/\SL W (.mem H'::l) w/\∀{W' w':Ζ} {l':Β},SL W' (.mem H'::l') w'->SL W' (.mem H::.pt b cs t::l') w':=by
 obtain⟨a1,a2,a3,k,⟨h1,h2,s,rfl,h3,h4,s',⟨f,hf,rfl⟩,r⟩,m⟩:=h;obtain⟨k',x,y⟩:=s.join s';refine⟨k',λb o e=>?_,λo v e=>?_,⟨a1,a2,a3,k,⟨k',h4,x,rfl,r⟩,m⟩,λ{W' w' l'} h'=>?_⟩
 ·exact y.left b o e
 ·have:k' b=some (.cells cs.toArray t f):=y.right b _ (by simp[aX.one]);simp[aX.cell,this,e]
 obtain⟨c1,c2,c3,q,⟨g1,g2,u,rfl,r'⟩,m'⟩:=h';obtain⟨k2,u1,u2⟩:=u.assoc y;exact⟨c1,c2,c3,q,⟨_,_,u1,rfl,_,_,u2,⟨f,hf,rfl⟩,r'⟩,m'⟩
def aY.Ao{W w:Ζ}{l:Β}{H:aX}{v:Ε}{t:Ι}{sz n:Nat}{cells:Ξ}(h:SL W (.mem H::.ob (aY v t sz n cells)::l) w):
  ∃H',H.le H'/\bK H' sz v n cells/\SL W (.mem H'::l) w/\∀{W' w':Ζ} {l':Β},SL W' (.mem H'::l') w'->SL W' (.mem H::.ob (aY v t sz n cells)::l') w':=by
 rcases aY.open (h.perm (.swap _ _ _)) with ⟨⟨a,rfl⟩,rfl,rfl,hS⟩|⟨b,cap,rest,rfl,hc,hlen,ij,hS⟩
 ·exact⟨H,aX.le_refl H,⟨by simp,a,0,rfl,zzz _,.inl rfl⟩,hS,λh'=>(aY.lP h').perm (.swap _ _ _)⟩
 obtain⟨H',h1,h2,h3,h4⟩:=SL.Ao (hS.perm (.swap _ _ _));refine⟨H',h1,⟨hlen,_,cap,rfl,hc,.inr ⟨b,0,rfl,λj u hu=>?_⟩⟩,h3,λh'=>?_⟩
 ·rw[zz2];refine h2 j u ?_;rw[zzs (zzf.1 hu).1];exact hu
 exact (aY.mk hc hlen ij ((h4 h').perm (.swap _ _ _))).perm (.swap _ _ _)
structure jc{α:Type}(one:bf->α × bf)(n:Nat)(r0:bf)(xs:List α)(k:Nat)(r:bf):Prop where
 eq:cz one n r0=(xs++(cz one k r).1,(cz one k r).2)
 le:xs.length+k<=n
def jc.start{α:Type}(one:bf->α × bf)(n:Nat)(r:bf):jc one n r [] n r:=⟨rfl,by simp⟩
def jc.step{α:Type}{one:bf->α × bf}{n:Nat}{r0:bf}{xs:List α}{k:Nat}{r:bf}(h:jc one n r0 xs (k+1) r):jc one n r0 (xs++[(one r).1]) k (one r).2:=
 ⟨by rw[h.eq];simp[cz],by have:=h.le;rw[zza,yyg];omega⟩
def jc.stop{α:Type}{one:bf->α × bf}{n:Nat}{r0:bf}{xs:List α}{r:bf}(h:jc one n r0 xs 0 r):cz one n r0=(xs,r):=by
 rw[h.eq];simp[cz]
def Yn(rp:Nat)(r:bf):SP 280 [Δ rp] [.ob (b8 rp r)] (bj (agg (dh (fJ r).1)) [.ob (b8 rp (fJ r).2)]):=by
 refine Enzz λW F w hS=>?_;apply aYe;delta ai bn;refine Gm λb w hS=>?_;refine Cg (zo rp r 8) λw hS=>?_;refine Cg (zE rp _) λw hS=>?_;refine Cg (yE rp _) λw hS=>?_;refine Cg (zZ rp _) λw hS=>?_;simp only[fJ];exact bt hS
def xn{aR kind mark:Int}{cv sv:Ε}(h1:cv.oneCell'=true)(h2:sv.oneCell'=true):∀v∈fj ⟨aR,kind,cv,sv,mark⟩,v.oneCell'=true:=by
 intro v hv;simp only[fj,zzv,yy8,vvf]at hv;rcases hv with rfl|rfl|rfl|rfl|rfl
 ·rfl
 ·rfl
 ·exact h1
 ·exact h2
 rfl
def uf:mM:=⟨0,0,Θ,Θ,0⟩
abbrev BE(b:Nat):Μ:=.pt b [Γ 0,Γ 0,Θ,Θ,Γ 0] 106
def baz(X:Μ)(H:aX)(b:Φ)(u:Ε)(post:Β):Prop:=match ix b with
 | .error e=>e≠0/\∃H',H.le H'/\u= .tuple #[agg (fj uf),Γ e]/\post=[X,.mem H']
 | .ok t=>∃x H',H.le H'/\u= .tuple #[agg (fj x),Γ 0]/\mL H' x t/\post=[X,.mem H']
def R0{b:Φ}{e:Int}(h:dK b= .error e):ix b= .error e:=by unfold ix;rw[h]
def R3{b:Φ}{l:List bz}(h:dK b= .ok l)(h2:¬((iI ⟨l,false⟩).2.bad=false/\(iI ⟨l,false⟩).2.l=[]/\cI (iI ⟨l,false⟩).1=true)):ix b= .error 3:=by
 unfold ix sQ;rw[h];simp only;rw[zzb h2]
def R1{b:Φ}{l:List bz}(h:dK b= .ok l)(h2:(iI ⟨l,false⟩).2.bad=false/\(iI ⟨l,false⟩).2.l=[]/\cI (iI ⟨l,false⟩).1=true):ix b= .ok (iI ⟨l,false⟩).1:=by
 unfold ix sQ;rw[h];simp only;rw[zzd h2]
abbrev iJ(v:Ε)(l:List bY):Μ:=.ob (aY v 70 4 l.length (l.map dh).flatten)
abbrev hU(v:Ε)(l:Ψ):Μ:=.ob (aY v 9 1 l.length (l.map λs=>[Value.string s]).flatten)
def sy(X:Μ)(H:aX)(b:Φ)(u:Ε)(post:Β):Prop:=match ix b with
 | .error e=>e≠0/\u= .tuple #[agg (fj uf),Γ e]/\post=[X,.mem H]
 | .ok t=>∃x:mM,u= .tuple #[agg (fj x),Γ 0]/\(x.aR=t.aR/\x.kind=t.kind/\x.mark=t.mark)/\post=[iJ x.cv t.changes,hU x.sv t.signals,X,.mem H]
def AZ(l:Ψ):(l.map λs=>[Value.string s]).flatten=l.map Value.string:=by
 induction l with
 | nil=>rfl
 | cons a l ih=>simp[ih]
structure Bm(l:List bz)(aR kind mark:Int)(r3:bf):Prop where
 aR:(iI ⟨l,false⟩).1.aR=aR
 kind:(iI ⟨l,false⟩).1.kind=kind
 mark:(iI ⟨l,false⟩).1.mark=mark
 ch:(iI ⟨l,false⟩).1.changes=(cz fJ (bm 16 r3).1.toNat (bm 16 r3).2).1
 sg:∀r4,(cz fJ (bm 16 r3).1.toNat (bm 16 r3).2).2=r4->(iI ⟨l,false⟩).1.signals=(cz cJ (bm 2 r4).1.toNat (bm 2 r4).2).1/\(iI ⟨l,false⟩).2=(cz cJ (bm 2 r4).1.toNat (bm 2 r4).2).2
def Bm.is(l:List bz):Bm l (cG ⟨l,false⟩).1 (bm 3 (cG ⟨l,false⟩).2).1 (cG (bm 3 (cG ⟨l,false⟩).2).2).1 (cG (bm 3 (cG ⟨l,false⟩).2).2).2:=⟨rfl,rfl,rfl,rfl,λr4 h=>by subst h;exact⟨rfl,rfl⟩⟩
def YY(X:Μ)(H:aX)(v:Ε)(bs:Φ)(hv:bN X v bs):SP 218 [v] [X,.mem H] (sy X H bs):=by
 refine Enzz λW F w hS=>?_;apply aXf;delta aF ba bD ai bn aZ;refine Gb λzb w hS=>?_;refine Cc (yj X v bs hv) ?_;clear hS;rintro r post hq w hS;unfold lq at hq;cases hd:dK bs with
 | error e=>
  rw[hd]at hq
  obtain⟨rfl,rfl⟩:=hq;have he:=uN hd;(try simp only[app]at hS);refine Gp ?_
  refine za (λ_=>?_) (λh=>absurd he h);refine Gn λw hS=>?_;exact⟨[X,.mem H],by unfold sy;rw[R0 hd];exact⟨he,rfl,rfl⟩,aI hS⟩
 | ok l=>
  rw[hd]at hq
  obtain⟨lv,rfl,rfl⟩:=hq;(try simp only[app]at hS);refine Gp ?_
  refine Χ ?_;refine Cc (yF lv l) ?_;clear hS;rintro _ post ⟨rp,rfl,rfl⟩ w hS;try simp only[app]at hS
  refine Cc (zE rp ⟨l,false⟩) ?_;clear hS;rintro v1 post ⟨rfl,rfl⟩ w hS;try simp only[app]at hS
  refine Cc (zo rp _ 3) ?_;clear hS;rintro v1 post ⟨rfl,rfl⟩ w hS;try simp only[app]at hS
  refine Cc (zE rp _) ?_;clear hS;rintro v1 post ⟨rfl,rfl⟩ w hS;try simp only[app]at hS
  have hI:=Bm.is l;generalize (cG (bm 3 (cG ⟨l,false⟩).2).2).1=mark at *
  generalize (cG (bm 3 (cG ⟨l,false⟩).2).2).2=r3 at *
  generalize (bm 3 (cG ⟨l,false⟩).2).1=kind at *
  generalize (cG ⟨l,false⟩).1=aR at *
  have kY:=mw (m:=16) (by decide) r3;refine Gp ?_;refine Gb λxb w hS=>?_;have hS:SL W (iJ Θ []::_) _:=aY.nil hS;have hS:SL W (hU Θ []::_) _:=aY.nil hS;refine Cc (zo rp r3 16) ?_;clear hS;rintro v1 post ⟨rfl,rfl⟩ w hS;try simp only[app]at hS
  have nS:=hI.ch;have Ab:=hI.sg;generalize (bm 16 r3).1=n1 at *
  generalize (bm 16 r3).2=r2 at *
  refine⟨λus w=>∃(k:Nat) (dY:List bY) (r:bf) (cv:Ε),us=[Γ k]/\jc fJ n1.toNat r2 dY k r/\SL W (iJ cv dY::.ob (b8 rp r)::hU Θ []::.pt xb [Γ aR,Γ kind,cv,Θ,Γ mark] 106::BE zb::X::.mem H::F) w,
   λus _=>match us with|[.int _ i]=>i.toNat|_=>0,⟨n1.toNat,[],r2,Θ,by rw[show ((n1.toNat:Nat):Int)=n1 by omega],jc.start _ _ _,aI hS⟩,?_⟩
  clear hS;rintro v8 w ⟨k,dY,r,cv,bM,hM,hS⟩;cases bM;have hle:=hM.le;refine bw (λh=>?_) (λh=>?_)
  ·obtain⟨k,rfl⟩:∃j,k=j+1:=⟨k-1,by omega⟩;have hM:=hM.step;refine Gn λw hS=>?_;refine Cg (Yn rp r) λw hS=>?_;refine Gm λb w hS=>?_;refine ye (n:=dY.length) (xs:=dY) (y:=(fJ r).1) (enc:=dh) hS Xr Xh kM (λx=>xk x) rfl (by omega) (by omega) λu w hS=>?_;have h1:=aY.one hS;refine Gn λw hS=>?_;refine⟨⟨k,_,_,u,by rw[show ((k+1:Nat):Int)-1=(k:Int) by omega],hM,?_⟩,by dsimp only;omega⟩;have hS:=hS.lS (x:=(fJ r).1);exact aI hS
  obtain rfl:k=0:=by omega
  rw[hM.stop]at nS Ab
  obtain⟨Ac,bU⟩:=Ab r rfl;have kZ:=mw (m:=2) (by decide) r;refine Cc (zo rp r 2) ?_;clear hS;rintro v1 post ⟨rfl,rfl⟩ w hS;try simp only[app]at hS
  generalize (bm 2 r).1=n2 at *
  generalize (bm 2 r).2=r5 at *
  refine⟨λus w=>∃(k:Nat) (gz:Ψ) (r:bf) (sv:Ε),us=[Γ k]/\jc cJ n2.toNat r5 gz k r/\SL W (hU sv gz::.ob (b8 rp r)::iJ cv dY::.pt xb [Γ aR,Γ kind,cv,sv,Γ mark] 106::BE zb::X::.mem H::F) w,
   λus _=>match us with|[.int _ i]=>i.toNat|_=>0,⟨n2.toNat,[],r5,Θ,by rw[show ((n2.toNat:Nat):Int)=n2 by omega],jc.start _ _ _,aI hS⟩,?_⟩
  clear hS;rintro v8 w ⟨k,gz,r,sv,bM,kr,hS⟩;cases bM;have hle:=kr.le;refine bw (λh=>?_) (λh=>?_)
  ·obtain⟨k,rfl⟩:∃j,k=j+1:=⟨k-1,by omega⟩;have kr:=kr.step;refine Gn λw hS=>?_;refine Cg (zZ rp r) λw hS=>?_;refine Gm λb w hS=>?_;refine ye (n:=gz.length) (xs:=gz) (y:=(cJ r).1) (enc:=λs=>[Value.string s]) hS Xr Xh (λ_=>rfl) (by simp[Value.oneCell']) rfl (by omega) (by omega) λu w hS=>?_;have h1:=aY.one hS;refine Gn λw hS=>?_;refine⟨⟨k,_,_,u,by rw[show ((k+1:Nat):Int)-1=(k:Int) by omega],kr,?_⟩,by dsimp only;omega⟩;have hS:=hS.lS (x:=(cJ r).1);exact aI hS
  obtain rfl:k=0:=by omega
  rw[kr.stop]at Ac bU
  have oS:=hI.aR;have K9:=hI.kind;have Lg:=hI.mark;have nS:(iI ⟨l,false⟩).1.changes=dY:=nS;have Ac:(iI ⟨l,false⟩).1.signals=gz:=Ac;have bU:(iI ⟨l,false⟩).2=r:=bU;generalize ht:(iI ⟨l,false⟩).1=t at *
  generalize hr:(iI ⟨l,false⟩).2=r' at *
  subst bU nS Ac;have gW:cv.oneCell'=true:=aY.one (hS.perm (dW.perm (c:=iJ cv t.changes) Xr));have rM:sv.oneCell'=true:=aY.one (hS.perm (dW.perm (c:=hU sv t.signals) Xr));refine Cg (yC rp r') λw hS=>?_;have cU:¬(r'.bad=false/\r'.l=[]/\cI t=true)->∀{w:Ζ},SL W (X::.mem H::F) w->∃post,sy X H bs (.tuple #[agg (fj uf),Γ 3]) post/\SL W (app post F) w:=λh w hS=>⟨[X,.mem H],by unfold sy;rw[R3 hd (by rw[ht,hr];exact h)];exact⟨by decide,rfl,rfl⟩,hS⟩;refine zr (λhb=>?_) (λhb=>?_)
  ·have hb:=yyj hb;refine Gn λw hS=>?_;exact cU (λh=>hb ⟨h.1,h.2.1⟩) (aI hS)
  have hb:=zzl hb;refine Gp ?_;obtain⟨H1,dF,hO,hS,PT⟩:=aY.Ao (SL.bA hS (t:=.mem H::iJ cv t.changes::hU sv t.signals::.ob (b8 rp r')::.pt xb [Γ aR,Γ kind,cv,sv,Γ mark] 106::BE zb::X::F) Xi);obtain⟨H2,cT,hN,hS,PU⟩:=aY.Ao hS;rw[AZ]at hN
  have hx:mL H2 ⟨aR,kind,cv,sv,mark⟩ t:=⟨oS.symm,K9.symm,Lg.symm,hO.mono cT,hN⟩;refine Cg (yy H2 ⟨aR,kind,cv,sv,mark⟩ t hx) λw hS=>?_;have hS:=PT (PU (Has.front (c:=.mem H2) hS Xr));refine zr (λhm=>?_) (λhm=>?_)
  ·refine Gn λw hS=>?_;exact cU (λh=>by rw[h.2.2]at hm;cases hm) (aI hS)
  refine Gp ?_;refine zO (vs:=fj ⟨aR,kind,cv,sv,mark⟩) hS Xu rfl rfl (xn gW rM) λw hS=>?_;refine Gp ?_;exact⟨[iJ cv t.changes,hU sv t.signals,X,.mem H],by unfold sy;rw[R1 hd (by rw[ht,hr];exact⟨hb.1,hb.2,hm⟩),ht];exact⟨⟨aR,kind,cv,sv,mark⟩,rfl,⟨oS.symm,K9.symm,Lg.symm⟩,rfl⟩,aI hS⟩
def ZU(H:aX)(v:Ε)(C:List Row)(hC:bK H 2 v C.length (C.map gw).flatten)(hn:C.length<=140737488351232):SP 345 [v] [.mem H] (bj (.bool (mh C)) [.mem H]):=by
 refine Enzz λW F w hS=>?_;apply aZb;delta aF aW bc ai bn;refine zh hC ?_;refine⟨λus w=>∃(i:Nat) (k:Int),us=[Γ k,Γ i]/\i<=C.length/\pY 0 C=pY k (C.drop i)/\SL W (.mem H::F) w,λus _=>match us with|[_,.int _ i]=>(C.length-i).toNat|_=>0,⟨0,0,rfl,by omega,rfl,hS⟩,?_⟩;clear hS;rintro v3 v8 w ⟨i,k,bM,hi,hr,hS⟩;cases bM;refine bw (λh=>?_) (λh=>?_)
 ·have bg:i<C.length:=by omega
  rw[yya bg,pY]at hr
  refine zy hS Xh lZ hC (x:=C[i]) (by simp[bg]) bg ?_;generalize C[i]=r at *
  obtain⟨rk,rv⟩:=r;have hF:∀{w:Ζ} {b:Nat},¬(k<rk/\rk<=1099511627776/\rv.size<=32)->SL W (.pt b [Γ rk,.string rv] 213::.mem H::F) w->∃post,bj (.bool (mh C)) [.mem H] (.bool false) post/\SL W (app post F) w:=λcU hS=>
   ⟨_,⟨by unfold mh;rw[hr,zz5 cU];rfl,rfl⟩,aI hS⟩
  rw[B_];refine Gm λb w hS=>?_;refine za (λh1=>hF (by omega) hS) (λh1=>?_);refine Gp ?_;refine za (λh2=>hF (by omega) hS) (λh2=>?_);refine Gp ?_;refine za (λh3=>hF (by omega) hS) (λh3=>?_);refine Gp ?_;refine⟨⟨i+1,rk,rfl,by omega,?_,aI hS⟩,by dsimp only;omega⟩;rw[hr,zzr (show k<rk/\rk<=1099511627776/\rv.size<=32 by omega)];rfl
 have eM:i=C.length:=by omega
 subst eM;rw[vvr]at hr
 refine zh hC ?_;refine Gp ?_;have e:mh C=decide ((C.length:Int)<=1000):=by
  unfold mh;rw[hr];show (true && _)=_;rw[uu1,yyd];omega
 rw[e];(exact bt hS)
def sE(H:aX)(v:Ε)(ts:List (List Row)):Prop:=∃vs,bK H 1 v ts.length vs/\mH H vs ts
def Zd{H:aX}{v:Ε}{ts:List (List Row)}{K:Ε->Prop}(h:sE H v ts)(k:K (Γ ts.length)):zd v K:=by
 obtain⟨vs,h1,_⟩:=h;exact zh h1 k
def Qi{W w:Ζ}{l:Β}{H:aX}{v:Ε}{ts:List (List Row)}{j:Nat}{k:IntKind}{K:Ε->Prop}(hS:SL W l w)(hm:Has (.mem H) l)(h:sE H v ts)(hj:j<ts.length)
  (hK:∀u,bK H 2 u ts[j].length (ts[j].map gw).flatten->K u):zj 1 v (.int k (j:Int)) λp=>bx p w K:=by
 obtain⟨vs,h1,h2⟩:=h;have hl:=h2.1;have hu:vs[j]?=some (vs[j]'(by omega)):=zzc (by omega);exact yg hS hm h1 hj hu (hK _ (h2.2 j _ _ hu (zzc hj)))
def Yo(H:aX)(v:Ε)(aR:Int)(ts:List (List Row))(hv:sE H v ts)(hn:ts.length<=140737488351232)(hc:∀C∈ts,C.length<=140737488351232):SP 301 [Γ aR,v] [.mem H] (bj (.bool (iz aR ts)) [.mem H]):=by
 refine Enzz λW F w hS=>?_;apply aYn;delta aF bD bc ai;have hF:∀{w:Ζ},¬(0<=aR/\aR<=1099511627776/\1<=ts.length/\ts.length<=8)->SL W (.mem H::F) w->∃post,bj (.bool (iz aR ts)) [.mem H] (.bool false) post/\SL W (app post F) w:=λcU hS=>⟨_,⟨by unfold iz;rw[zz5 cU];rfl,rfl⟩,hS⟩;refine Gp ?_;refine za (λh=>hF (by omega) hS) (λh1=>?_);refine Gp ?_;refine za (λh=>hF (by omega) hS) (λh2=>?_);refine Zd hv ?_;refine Gp ?_;refine za (λh=>hF (by omega) hS) (λh3=>?_);refine Zd hv ?_;refine Gp ?_;refine za (λh=>hF (by omega) hS) (λh4=>?_);refine Zd hv ?_;have hM:iz aR ts=ts.all mh:=by unfold iz;rw[zzr (show 0<=aR/\aR<=1099511627776/\1<=ts.length/\ts.length<=8 by omega)];rfl
 refine⟨λus w=>∃i:Nat,us=[Γ i]/\i<=ts.length/\(∀j (h:j<ts.length),j<i->mh ts[j]=true)/\SL W (.mem H::F) w,λus _=>match us with|[.int _ i]=>(ts.length-i).toNat|_=>0,⟨0,rfl,by omega,λj h hj=>by omega,hS⟩,?_⟩;clear hS;rintro v25 w ⟨i,bM,hi,b5,hS⟩;cases bM;refine bw (λh=>?_) (λh=>?_)
 ·have bg:i<ts.length:=by omega
  refine Qi hS Xh hv bg λu hu=>?_;refine Cg (ZU H u ts[i] hu (hc _ (zzi bg))) λw hS=>?_;refine zr (λhb=>?_) (λhb=>?_)
  ·refine⟨_,⟨?_,rfl⟩,hS⟩;rw[hM,show ts.all mh=false from uu0.2 ⟨_,zzi bg,by rw[hb];decide⟩]
  refine Gp ?_;refine⟨⟨i+1,rfl,by omega,λj hj gJ=>?_,hS⟩,by dsimp only;omega⟩;by_cases e:j=i
  ·subst e;exact hb
  exact b5 j hj (by omega)
 refine⟨_,⟨?_,rfl⟩,hS⟩;rw[hM,show ts.all mh=true from zzw.2 λC hC=>by
  obtain⟨j,hj,rfl⟩:=yyf hC;exact b5 j hj (by omega)]
def aF0(r:bf):mA r=bW pZ (bm 1000 r).1.toNat (bm 1000 r).2:=rfl
def qH(rp:Nat)(r:bf):SP 312 [Δ rp] [.ob (b8 rp r)] (λv post=>(mA r).1.length<=1000/\post=[g_ v (mA r).1,.ob (b8 rp (mA r).2)]):=by
 refine Enzz λW F w hS=>?_;apply aYu;delta aF ai bn aZ;rw[aF0];have kY:=mw (m:=1000) (by decide) r;refine Cc (zo rp r 1000) ?_;clear hS;rintro v1 post ⟨rfl,rfl⟩ w hS;try simp only[app]at hS
 generalize (bm 1000 r).1=n1 at *
 generalize (bm 1000 r).2=r2 at *
 have hS:SL W (g_ Θ []::_) _:=aY.nil hS;refine⟨λus w=>∃(k:Nat) (rs:List Row) (r:bf) (rv:Ε),us=[rv,Γ k]/\gO pZ n1.toNat r2 rs k r/\SL W (g_ rv rs::.ob (b8 rp r)::F) w,
  λus _=>match us with|[_,.int _ i]=>i.toNat|_=>0,⟨n1.toNat,[],r2,Θ,by rw[show ((n1.toNat:Nat):Int)=n1 by omega],gO.start _ _ _,aI hS⟩,?_⟩
 clear hS;rintro v3 v4 w ⟨k,rs,r,rv,bM,hM,hS⟩;cases bM;have hle:=hM.le;refine bw (λh=>?_) (λh=>?_)
 ·obtain⟨k,rfl⟩:∃j,k=j+1:=⟨k-1,by omega⟩;refine Cg (yD rp r) λw hS=>?_;refine zr (λhb=>?_) (λhb=>?_)
  ·have hM:=hM.step hb;refine Cc (zE rp r) ?_;clear hS;rintro v1 post ⟨rfl,rfl⟩ w hS;try simp only[app]at hS
   refine Cg (zZ rp _) λw hS=>?_;refine Gm λb w hS=>?_;refine ye (n:=rs.length) (xs:=rs) (y:=(pZ r).1) (enc:=gw) hS Xr Xh lZ (λx=>uU x) rfl (by omega) (by omega) λu w hS=>?_;refine Gp ?_;refine⟨⟨k,_,_,u,by rw[show ((k+1:Nat):Int)-1=(k:Int) by omega],hM,?_⟩,by dsimp only;omega⟩;have hS:=hS.lS (x:=(pZ r).1);have hS:SL W (g_ u (rs++[(pZ r).1])::_::.ob (b8 rp (pZ r).2)::F) _:=hS;exact aI hS
  rw[hM.stop (.inr hb)];exact⟨_,⟨by show rs.length<=1000;omega,rfl⟩,aI hS⟩
 rw[hM.stop (.inl (by omega))];exact⟨_,⟨by show rs.length<=1000;omega,rfl⟩,aI hS⟩
def mH.nil(H:aX):mH H [] []:=⟨rfl,λi v C h1 h2=>by simp at h1⟩
def mH.snoc{H:aX}{vs:Ξ}{ts:List (List Row)}(h:mH H vs ts){v:Ε}{C:List Row}(hv:bK H 2 v C.length (C.map gw).flatten):mH H (vs++[v]) (ts++[C]):=by
 have hl:=h.1;refine⟨by rw[zza,zza,hl];rfl,λi u D h1 h2=>?_⟩;rcases ww0 i vs.length with hi|hi
 ·rw[zzs hi]at h1
  rw[zzs (by omega)]at h2
  exact h.2 i u D h1 h2
 rw[zz3 hi]at h1
 rw[zz3 (by omega)]at h2
 obtain⟨e,rfl⟩:i-vs.length=0/\v=u:=by
  cases hk:i-vs.length with
  | zero=>rw[hk]at h1;exact⟨rfl,by simpa using h1⟩
  | succ n=>rw[hk]at h1;simp at h1
 rw[show i-ts.length=0 by omega]at h2
 obtain rfl:C=D:=by simpa using h2
 exact hv
def ug(X:Μ)(H:aX)(b:Φ)(u:Ε)(post:Β):Prop:=match iO b with
 | none=>u= .tuple #[Γ 0,Θ,Γ 3]/\∃H',H.le H'/\post=[X,.mem H']
 | some x=>∃v H',H.le H'/\sE H' v x.2/\u= .tuple #[Γ x.1,v,Γ 0]/\post=[X,.mem H']
def LN{l:List bz}(h:¬((jy ⟨l,false⟩).2.bad=false/\(jy ⟨l,false⟩).2.l=[]/\iz (jy ⟨l,false⟩).1.1 (jy ⟨l,false⟩).1.2=true)):oV l=none:=by
 unfold oV;simp only;rw[zzb h]
def Vg{l:List bz}(h:(jy ⟨l,false⟩).2.bad=false/\(jy ⟨l,false⟩).2.l=[]/\iz (jy ⟨l,false⟩).1.1 (jy ⟨l,false⟩).1.2=true):oV l=some (jy ⟨l,false⟩).1:=by
 unfold oV;simp only;rw[zzd h]
structure A'(l:List bz)(aR:Int)(r1:bf):Prop where
 aR:(jy ⟨l,false⟩).1.1=aR
 ts:(jy ⟨l,false⟩).1.2=(cz mA (bm 8 r1).1.toNat (bm 8 r1).2).1
 rd:(jy ⟨l,false⟩).2=(cz mA (bm 8 r1).1.toNat (bm 8 r1).2).2
def A'.is(l:List bz):A' l (cG ⟨l,false⟩).1 (cG ⟨l,false⟩).2:=⟨rfl,rfl,rfl⟩
def YS(X:Μ)(H:aX)(v:Ε)(bs:Φ)(hv:bN X v bs)(hN:bs.length<=140737488355328):SP 264 [v] [X,.mem H] (ug X H bs):=by
 refine Enzz λW F w hS=>?_;apply aXw;delta aF bD ai aZ;have cU:iO bs=none->∀{w:Ζ} {H':aX},H.le H'->SL W (X::.mem H'::F) w->∃post,ug X H bs (.tuple #[Γ 0,Θ,Γ 3]) post/\SL W (app post F) w:=λh w H' hh hS=>⟨[X,.mem H'],by unfold ug;rw[h];exact⟨rfl,H',hh,rfl⟩,hS⟩;refine Cc (Yh X v bs hv hN) ?_;clear hS;rintro r post hq w hS;unfold oB at hq;cases ht:fg bs with
 | error e=>
  rw[ht]at hq
  obtain⟨rfl,rfl⟩:=hq;have hd:iO bs=none:=by unfold iO;rw[ht]
  have he:e≠0:=by have:=OK ht;omega
  (try simp only[app]at hS);refine Gp ?_
  exact za (λ_=>cU hd (aX.le_refl H) (aI hS)) (λh=>absurd he h)
 | ok pn=>
  obtain⟨p,n⟩:=pn;rw[ht]at hq
  obtain⟨pv,rfl,rfl⟩:=hq;(try simp only[app]at hS);refine Gp ?_
  refine Χ ?_;refine zN hS Xh hv ?_;refine bw (λh=>?_) (λh=>?_)
  ·have hd:iO bs=none:=by unfold iO;rw[ht];simp only;rw[zzb (by omega)]
   exact cU hd (aX.le_refl H) (aI hS)
  have vy:n=bs.length:=by omega
  refine Cc (yj _ pv p bN.own) ?_;clear hS;rintro r post hq w hS;unfold lq at hq;cases hd:dK p with
  | error e=>
   rw[hd]at hq
   obtain⟨rfl,rfl⟩:=hq;have he:=uN hd;have hd:iO bs=none:=by unfold iO;rw[ht];simp only;rw[zzd vy,hd]
   (try simp only[app]at hS);refine Gp ?_
   exact za (λ_=>cU hd (aX.le_refl H) (aI hS)) (λh=>absurd he h)
  | ok l=>
   rw[hd]at hq
   obtain⟨lv,rfl,rfl⟩:=hq;have hI:=JH ht vy hd;(try simp only[app]at hS);refine Gp ?_
   refine Χ ?_;refine Cc (yF lv l) ?_;clear hS;rintro _ post ⟨rp,rfl,rfl⟩ w hS;try simp only[app]at hS
   refine Cc (zE rp ⟨l,false⟩) ?_;clear hS;rintro v1 post ⟨rfl,rfl⟩ w hS;try simp only[app]at hS
   have hR:=A'.is l;generalize (cG ⟨l,false⟩).1=aR at *
   generalize (cG ⟨l,false⟩).2=r1 at *
   have kY:=mw (m:=8) (by decide) r1;refine Cc (zo rp r1 8) ?_;clear hS;rintro v1 post ⟨rfl,rfl⟩ w hS;try simp only[app]at hS
   have nh:=hR.ts;have bU:=hR.rd;generalize (bm 8 r1).1=n1 at *
   generalize (bm 8 r1).2=r2 at *
   have hS:SL W (.ob (aY Θ 160 1 ([]:List (List Row)).length [])::_) _:=aY.nil hS;refine⟨λus w=>∃(k:Nat) (ts:List (List Row)) (r:bf) (tv:Ε) (vs:Ξ) (H':aX),us=[tv,Γ k]/\jc mA n1.toNat r2 ts k r/\(∀C∈ts,C.length<=1000)/\H.le H'/\mH H' vs ts/\SL W (.ob (aY tv 160 1 ts.length vs)::.ob (b8 rp r)::X::.mem H'::F) w,
    λus _=>match us with|[_,.int _ i]=>i.toNat|_=>0,⟨n1.toNat,[],r2,Θ,[],H,by rw[show ((n1.toNat:Nat):Int)=n1 by omega],jc.start _ _ _,by simp,aX.le_refl H,mH.nil H,aI hS⟩,?_⟩
   clear hS;rintro tv v12 w ⟨k,ts,r,_,vs,H',bM,hM,Kv,hh,nP,hS⟩;cases bM;have hle:=hM.le;refine bw (λh=>?_) (λh=>?_)
   ·obtain⟨k,rfl⟩:∃j,k=j+1:=⟨k-1,by omega⟩;have hM:=hM.step;refine Cc (qH rp r) ?_;clear hS;rintro rv post ⟨hl,rfl⟩ w hS;try simp only[app]at hS
    obtain⟨H2,cT,hO,hS⟩:=zW (H:=H') (v:=rv) hS Xp;have gW:=hO.one;refine zA hS (J_ gW) λb w hS=>?_;refine zx (n:=ts.length) (m:=1) hS Xr (fC (cs:=[rv]) hS Xh rfl) rfl rfl (by simpa using gW) (by omega) (by omega) ?_;clear hS;intro u w hS;refine Gp ?_;refine⟨⟨k,_,_,u,vs++[rv],H2,by rw[show ((k+1:Nat):Int)-1=(k:Int) by omega],hM,λC hC=>?_,aX.le_trans hh cT,(nP.mono cT).snoc hO,?_⟩,by dsimp only;omega⟩
    ·rcases yyb.1 hC with hC|hC
     ·exact Kv C hC
     rw[zz8.1 hC];exact hl
    have hS:=hS.lS (x:=(mA r).1);exact aI hS
   obtain rfl:k=0:=by omega
   rw[hM.stop]at nh bU
   have nh:(jy ⟨l,false⟩).1.2=ts:=nh;have bU:(jy ⟨l,false⟩).2=r:=bU;have oS:=hR.aR;obtain⟨H2,cT,hO,hS⟩:=zW (H:=H') (v:=tv) hS Xp;have ep:=aX.le_trans hh cT;have hT:sE H2 tv ts:=⟨vs,hO,nP.mono cT⟩;refine Cg (yC rp r) λw hS=>?_;refine zr (λhb=>?_) (λhb=>?_)
   ·have hb:=yyj hb;exact cU (by rw[hI];exact LN λh=>hb ⟨by rw[<- bU];exact h.1,by rw[<- bU];exact h.2.1⟩) ep (aI hS)
   have hb:=zzl hb;refine Cg (Yo H2 tv aR ts hT (by omega) (λC hC=>by have:=Kv C hC;omega)) λw hS=>?_;refine zr (λhm=>?_) (λhm=>?_)
   ·exact cU (by rw[hI];exact LN λh=>by rw[oS,nh,hm]at h;cases h.2.2) ep (aI hS)
   skip
   have he:=Vg (l:=l) ⟨by rw[bU];exact hb.1,by rw[bU];exact hb.2,by rw[oS,nh];exact hm⟩;refine⟨[X,.mem H2],?_,aI hS⟩;unfold ug;rw[hI,he];simp only;rw[oS,nh];exact⟨tv,H2,ep,hT,rfl,rfl⟩
abbrev kB(tp dp lp:Nat)(eZ image:Int):Ξ:=[bH tp,bH dp,bH lp,Γ eZ,Γ image]
def cj(sp tp dp lp:Nat)(k:b7):zw:=zG True [.pt sp (kB tp dp lp k.eZ k.image) 188,.ob (cH tp k.ts),.ob (bQ lp dp k.g)]
section
variable {W w:Ζ} {l F:Β} {sp tp dp lp:Nat}
def cj.iff{k:b7}:SL W (.ob (cj sp tp dp lp k)::l) w↔SL W (.pt sp (kB tp dp lp k.eZ k.image) 188::.ob (cH tp k.ts)::.ob (bQ lp dp k.g)::l) w:=by
 unfold cj;simp only[SL.fact,vv7,zzq,zzp]
def cj.put(k:b7)(hS:SL W l w)(p:eQ [.pt sp (kB tp dp lp k.eZ k.image) 188,.ob (cH tp k.ts),.ob (bQ lp dp k.g)] l F):SL W (.ob (cj sp tp dp lp k)::F) w:=cj.iff.2 (hS.pick p)
end
def cj.lR{W w:Ζ}{l F:Β}{sp tp dp lp:Nat}{g:b6}{d:DS}{ts:fz}{eZ image:Int}(hS:SL W l w)(p:eQ [.pt sp (kB tp dp lp eZ image) 188,.ob (cH tp ts),.ob (bQ lp dp g)] l F):SL W (.ob (cj sp tp dp lp ⟨g,d,ts,eZ,image⟩)::F) w:=cj.iff.2 (hS.pick p)
structure kh(k:b7)(N:Nat):Prop where
 g:gY k.g N
 d:k.d.Ok N
 rows:∀C∈k.ts,kF C
 len:∀C∈k.ts,C.length<=1000
 n1:1<=k.ts.length
 n8:k.ts.length<=8
section
variable (sp tp dp lp:Nat) (k:b7) {N:Nat} (hg:gY k.g N) (hN:N<=1000000000)
include hg hN
def yv:SP 88 [bH sp] [.ob (cj sp tp dp lp k)] (bj (Γ (bF k.g.a_)) [.ob (cj sp tp dp lp k)]):=by
 refine Enzz λW F w hS=>?_;apply a_5;delta bd bG;have hS:=cj.iff.1 hS;refine Gp ?_;refine Cg (ZE lp dp k.g hg.ok (by omega)) λw hS=>?_;exact⟨_,⟨rfl,rfl⟩,SL.bA (cj.put k hS Xp) Xi⟩
def Zo:SP 89 [bH sp] [.ob (cj sp tp dp lp k)] (bj (Γ (cX k.g.a_)) [.ob (cj sp tp dp lp k)]):=by
 refine Enzz λW F w hS=>?_;apply a_6;delta bd bG;have hS:=cj.iff.1 hS;refine Gp ?_;refine Cg (Zg lp dp k.g hg.ok (by omega)) λw hS=>?_;exact⟨_,⟨rfl,rfl⟩,SL.bA (cj.put k hS Xp) Xi⟩
def Bf(sp tp dp lp:Nat)(k:b7)(H:aX)(aR:Int)(r:Ε)(post:Β):Prop:=match k.gM aR with
 | .error e=>e≠0/\∃H',H.le H'/\r= .tuple #[agg (fj uf),Γ e]/\post=[.ob (cj sp tp dp lp k),.mem H']
 | .ok t=>∃x H',H.le H'/\r= .tuple #[agg (fj x),Γ 0]/\mL H' x t/\post=[.ob (cj sp tp dp lp k),.mem H']
def uw(sp tp dp lp:Nat)(k:b7)(H:aX)(aR:Int)(r:Ε)(post:Β):Prop:=match k.gM aR with
 | .error e=>e≠0/\r= .tuple #[agg (fj uf),Γ e]/\post=[.ob (cj sp tp dp lp k),.mem H]
 | .ok t=>∃x:mM,r= .tuple #[agg (fj x),Γ 0]/\(x.aR=t.aR/\x.kind=t.kind/\x.mark=t.mark)/\post=[iJ x.cv t.changes,hU x.sv t.signals,.ob (cj sp tp dp lp k),.mem H]
def qe(H:aX)(aR:Int)(hl : -9000000000000000000<=aR/\aR<=9000000000000000000):SP 165 [bH sp,Γ aR] [.ob (cj sp tp dp lp k),.mem H] (uw sp tp dp lp k H aR):=by
 refine Enzz λW F w hS=>?_;apply aWh;delta aF bd bG ai aZ;refine Gb λzb w hS=>?_;have hS:=cj.iff.1 (SL.bA hS (t:=.ob (cj sp tp dp lp k)::.pt zb [Γ 0,Γ 0,Θ,Θ,Γ 0] 106::.mem H::F) Xi);refine Gp ?_;refine Cc (ZJ lp dp k.g hg.ok (by omega) aR hl) ?_;clear hS;rintro r post hq w hS;unfold wI at hq;cases hr:kA k.g.a_ aR with
 | none=>
  rw[hr]at hq
  obtain⟨rfl,rfl⟩:=hq;have he:k.gM aR= .error 5:=by unfold b7.gM;rw[hr]
  try simp only[app]at hS
  have hS:=cj.put k hS Xp;refine Gp ?_;refine Υ ?_;refine Gn λw hS=>?_;exact⟨[.ob (cj sp tp dp lp k),.mem H],by unfold uw;rw[he];exact⟨by decide,rfl,rfl⟩,aI hS⟩
 | some bs=>
  rw[hr]at hq
  obtain⟨u,rfl,rfl⟩:=hq;have he:k.gM aR=ix bs:=by unfold b7.gM;rw[hr]
  try simp only[app]at hS
  have hS:=cj.put k hS Xp;refine Gp ?_;refine Χ ?_;refine Cc (YY (.ob (aY u 5 1 bs.length (bs.map bo))) H u bs bN.own) ?_;clear hS;rintro r post hq w hS;unfold sy at hq;cases hd:ix bs with
  | error e=>
   rw[hd]at hq
   obtain⟨d_,rfl,rfl⟩:=hq;try simp only[app]at hS
   unfold fj uf;refine Gn λw hS=>?_;refine⟨[.ob (cj sp tp dp lp k),.mem H],?_,aI hS⟩;unfold uw;rw[he,hd];exact⟨d_,rfl,rfl⟩
  | ok t=>
   rw[hd]at hq
   obtain⟨x,rfl,hx,rfl⟩:=hq;try simp only[app]at hS
   have gW:x.cv.oneCell'=true:=aY.one (hS.perm (dW.perm (c:=iJ x.cv t.changes) Xr));have rM:x.sv.oneCell'=true:=aY.one (hS.perm (dW.perm (c:=hU x.sv t.signals) Xr));refine Gp ?_;refine zO (vs:=fj x) hS Xu rfl rfl (xn (aR:=x.aR) (kind:=x.kind) (mark:=x.mark) gW rM) λw hS=>?_;refine zH hS Xh rfl ?_;refine⟨[iJ x.cv t.changes,hU x.sv t.signals,.ob (cj sp tp dp lp k),.mem H],?_,aI hS⟩;unfold uw;rw[he,hd];exact⟨x,rfl,hx,rfl⟩
def qT(H:aX)(aR:Int)(hl : -9000000000000000000<=aR/\aR<=9000000000000000000):SP 165 [bH sp,Γ aR] [.ob (cj sp tp dp lp k),.mem H] (Bf sp tp dp lp k H aR):=by
 intro W F w hS;refine zL.mono (qe sp tp dp lp k hg hN H aR hl W F w hS) ?_;rintro u w ⟨post,hq,hS⟩;unfold uw at hq;unfold Bf;cases hd:k.gM aR with
 | error e=>
  rw[hd]at hq
  obtain⟨d_,rfl,rfl⟩:=hq;exact⟨_,⟨d_,H,aX.le_refl H,rfl,rfl⟩,hS⟩
 | ok t=>
  rw[hd]at hq
  obtain⟨x,rfl,⟨e1,e2,e3⟩,rfl⟩:=hq;try simp only[app]at hS
  obtain⟨H1,dF,hO,hS⟩:=aY.freeze (SL.bA hS (t:=.mem H::iJ x.cv t.changes::hU x.sv t.signals::.ob (cj sp tp dp lp k)::F) Xi);obtain⟨H2,cT,hN,hS⟩:=aY.freeze hS;rw[AZ]at hN
  exact⟨[.ob (cj sp tp dp lp k),.mem H2],⟨x,H2,aX.le_trans dF cT,rfl,⟨e1,e2,e3,hO.mono cT,hN⟩,rfl⟩,aI hS⟩
end
section
variable (sp tp dp lp:Nat) (k:b7)
end
def ZC(H:aX)(v:Ε)(l:List bY)(n:Int)(hv:bK H 4 v l.length (l.map dh).flatten)(hl:l.length<=140737488351232):SP 119 [v,Γ n] [.mem H] (bj (.bool (decide (∀c∈l,c.table<n))) [.mem H]):=by
 refine Enzz λW F w hS=>?_;apply aRl;delta aF aW bc ai bn;refine zh hv ?_;refine⟨λus w=>∃i:Nat,us=[Γ i]/\i<=l.length/\(∀j (h:j<l.length),j<i->l[j].table<n)/\SL W (.mem H::F) w,λus _=>match us with|[.int _ i]=>(l.length-i).toNat|_=>0,⟨0,rfl,by omega,λj h hj=>by omega,hS⟩,?_⟩;clear hS;rintro v9 w ⟨i,bM,hi,b5,hS⟩;cases bM;refine bw (λh=>?_) (λh=>?_)
 ·have bg:i<l.length:=by omega
  refine zy hS Xh kM hv (x:=l[i]) (by simp[bg]) bg ?_;have hf:¬l[i].table<n->decide (∀c∈l,c.table<n)=false:=λh=>zz5 λh2=>h (h2 _ (zzi bg));have CE:l[i].table<n->∀j (h:j<l.length),j<i+1->l[j].table<n:=λh j hj gJ=>by
   by_cases e:j=i
   ·subst e;exact h
   exact b5 j hj (by omega)
  clear b5;generalize l[i]=c at *
  obtain⟨ct,ck,cg,cv⟩:=c;rw[JV];refine Gm λb w hS=>?_;refine za (λhb=>?_) (λhb=>?_)
  ·rw[hf (by show ¬ct<n;omega)];(exact bt hS)
  refine Gp ?_;refine⟨⟨i+1,rfl,by omega,CE (by show ct<n;omega),aI hS⟩,by dsimp only;omega⟩
 rw[show decide (∀c∈l,c.table<n)=true from zzr λc hc=>by
  obtain⟨j,hj,rfl⟩:=yyf hc;exact b5 j hj (by omega)]
 (exact bt hS)
def MK{t:bS}(h:cI t=true){n:Int}(h1:1<=n)(h2:n<=1099511627776):cI {t with aR:=n}=true:=by
 obtain⟨_,h3⟩:=tE.1 h;exact tE.2 ⟨⟨h1,h2⟩,h3⟩
abbrev EI(sp tp dp lp:Nat)(H:aX)(y:b7 × (Int × Int)):Ε->Β->Prop:=bj (.tuple #[Γ y.2.1,Γ y.2.2]) [.ob (cj sp tp dp lp y.1),.ob (bk dp y.1.d),.mem H]
def QT(sp tp dp lp:Nat)(k:b7)(H:aX)(x:mM)(t:bS)(hx:mL H x t)(hm:cI t=true){N:Nat}(hk:kh k N)(hN:N<=1000000000)(dH:k.d.ops<=90000):
  SP 121 [bH sp,agg (fj x)] [.ob (cj sp tp dp lp k),.ob (bk dp k.d),.mem H] (EI sp tp dp lp H (k.kI t)):=by
 refine Enzz λW F w hS=>?_;apply aRo;delta aF bd aW bD ai;have hg:=hk.g;obtain⟨UK,Ad,UL,UM,UN,Ly,UO⟩:=iW hm;have TO:=rO hg.ok.a_;have Us:∀C∈k.ts,C.length<=1000000:=λC hC=>by have:=hk.len C hC;omega
 have gd:∀C∈k.ts,ek C:=λC hC=>(hk.rows C hC).sorted;have h8:=hk.n8;refine zu hS λxb w hS=>?_;unfold fj at hS;rw[hx.aR,hx.kind,hx.mark]at hS
 have hS:=cj.iff.1 (SL.bA hS (t:=.ob (cj sp tp dp lp k)::kH xb x t::.ob (bk dp k.d)::.mem H::F) Xi);refine Gp ?_;refine Cg (yc dp k.d) λw hS=>?_;cases ho:k.d.off with
 | true=>
  refine zt ?_;rw[show k.kI t=(k,(0,8)) by unfold b7.kI;rw[zzd ho]];exact⟨_,⟨rfl,rfl⟩,SL.bA (cj.put k hS Xp) Xi⟩
 | false=>
  refine zs ?_;refine Gn λw hS=>?_;refine Cg (qY tp k.ts H x.cv t.changes hx.cv (by omega) gd Us (by omega) (by omega)) λw hS=>?_;refine zr (λhf=>?_) (λhf=>?_)
  ·rw[show k.kI t=(k,(0,7)) by unfold b7.kI;rw[zzb (by simp[ho]),zzd (.inl hf)]];exact⟨_,⟨rfl,rfl⟩,SL.bA (cj.put k hS Xp) Xi⟩
  have hS:=cj.put k hS Xp;refine Cg (yv sp tp dp lp k hg hN) λw hS=>?_;refine za (λhh=>?_) (λhh=>?_)
  ·rw[show k.kI t=(k,(0,7)) by unfold b7.kI;rw[zzb (by simp[ho]),zzd (.inr hh)]];exact bt hS
  refine Cg (yv sp tp dp lp k hg hN) λw hS=>?_;have th:=MK hm (n:=bF k.g.a_+1) (by omega) (by omega);have lN:mL H ⟨bF k.g.a_+1,t.kind,x.cv,x.sv,t.mark⟩ {t with aR:=bF k.g.a_+1}:=⟨rfl,rfl,rfl,hx.cv,hx.sv⟩;have KF:k.kI t=(let r:=gk k.g k.d (jX {t with aR:=bF k.g.a_+1});if r.2.2=0 then ({k with g:=r.1.1,d:=r.1.2,ts:=dV k.ts t.changes},(bF k.g.a_+1,0)) else ({k with g:=r.1.1,d:=r.1.2},(0,r.2.2))):=by
   unfold b7.kI;rw[zzb (by simp[ho]),zzb (by rw[hf];simp;omega)]
  have s9:=Jo th;have KM:=Ra th;rw[KF];clear KF;generalize hq:({t with aR:=bF k.g.a_+1}:bS)=t2 at *
  have tf:1<=bF k.g.a_+1:=by omega
  generalize bF k.g.a_+1=aR at *
  refine Cc (qI H ⟨aR,t.kind,x.cv,x.sv,t.mark⟩ t2 lN) ?_;clear hS;rintro r post hq w hS;unfold wC at hq;rw[KM]at hq
  obtain⟨bv,rfl,rfl⟩:=hq;try simp only[app]at hS
  have hS:=cj.iff.1 (SL.bA hS (t:=.ob (cj sp tp dp lp k)::.ob (aY bv 5 1 (lW t2).length ((lW t2).map bo))::.ob (bk dp k.d)::.pt xb [Γ aR,Γ t.kind,x.cv,x.sv,Γ t.mark] 106::.mem H::F) Xi);refine Gp ?_;refine⟨λus w=>us=[Γ (gk k.g k.d (jX t2)).2.2]/\SL W (.ob (bQ lp dp (gk k.g k.d (jX t2)).1.1)::.ob (bk dp (gk k.g k.d (jX t2)).1.2)::.pt sp (kB tp dp lp k.eZ k.image) 188::.ob (cH tp k.ts)::.pt xb [Γ aR,Γ t.kind,x.cv,x.sv,Γ t.mark] 106::.mem H::F) w,?_,?_⟩
  ·refine Gp ?_;refine Υ ?_;refine Gp ?_;refine Cg (Yj (.ob (aY bv 5 1 (lW t2).length ((lW t2).map bo))) lp dp k.g k.d bv (lW t2) bN.own (by omega) hg.ok (by omega) hk.d (by omega) dH) λw hS=>?_;exact aI hS
  clear hS;rintro v7 w ⟨bM,hS⟩;cases bM;generalize gk k.g k.d (jX t2)=r at *
  obtain⟨⟨g',d'⟩,n',e'⟩:=r;simp only at hS ⊢;refine bw (λhe=>?_) (λhe=>?_)
  ·rw[zzb he];exact⟨_,⟨rfl,rfl⟩,SL.bA (cj.lR (d:=d') hS Xp) Xi⟩
  have he:e'=0:=by omega
  rw[zzd he];refine Gn λw hS=>?_;refine Cg (Zv tp k.ts H x.cv t.changes hx.cv (by omega) gd 1000 hk.len (by omega)) λw hS=>?_;have b5:t.changes.all (fK k.ts.length)=true:=by
   unfold nI at hf;rw[zzk]at hf
   exact hf.1
  rw[zzd b5]at hS
  exact⟨_,⟨rfl,rfl⟩,SL.bA (cj.lR (d:=d') hS Xp) Xi⟩
def Yx(sp tp dp lp:Nat)(k:b7)(H:aX)(sv cv:Ε)(sg:Ψ)(l:List bY)(hs:bK H 1 sv sg.length (sg.map Value.string))(hc:bK H 4 cv l.length (l.map dh).flatten)(hl:l.length<=140737488351232){N:Nat}(hk:kh k N)(hN:N<=1000000000)(dH:k.d.ops<=90000):
  SP 82 [bH sp,sv,cv] [.ob (cj sp tp dp lp k),.ob (bk dp k.d),.mem H] (EI sp tp dp lp H (k.kj sg l)):=by
 refine Enzz λW F w hS=>?_;apply a_1;delta bd bD ai aZ;have vH:=hs.one;have gW:=hc.one;have hx:mL H ⟨1,1,cv,sv,0⟩ ⟨1,1,l,sg,0⟩:=⟨rfl,rfl,rfl,hc,hs⟩;have e0:eV [Γ 0,Γ 0,Θ,Θ,Γ 0] [(0,1,Γ 1),(1,1,Γ 1),(2,1,cv),(3,1,sv)]=some (fj ⟨1,1,cv,sv,0⟩):=by
  simp[eV,show ∀n,(Γ n).cells = #[Γ n] from λ_=>rfl,jC vH,jC gW,fj]
 refine yQ e0 ?_;refine Gb λxb w hS=>?_;refine zO hS Xu rfl rfl (xn gW vH) λw hS=>?_;refine zH hS Xh rfl ?_;refine Cg (yy H ⟨1,1,cv,sv,0⟩ ⟨1,1,l,sg,0⟩ hx) λw hS=>?_;refine zr (λhm=>?_) (λhm=>?_)
 ·rw[show k.kj sg l=(k,(0,1)) by unfold b7.kj;rw[zzb (by rw[hm];simp)]];exact bt hS
 have hS:=cj.iff.1 (SL.bA hS (t:=.ob (cj sp tp dp lp k)::.pt xb (fj ⟨1,1,cv,sv,0⟩) 106::.ob (bk dp k.d)::.mem H::F) Xi);refine Gp ?_;refine Cg (yL tp k.ts) λw hS=>?_;refine Cg (ZC H cv l k.ts.length hc hl) λw hS=>?_;have hS:=cj.put k hS Xp;refine zr (λhb=>?_) (λhb=>?_)
 ·have hb:=yyj hb;rw[show k.kj sg l=(k,(0,1)) by unfold b7.kj;rw[zzb λh=>hb h.2]];exact bt hS
 have hb:=zzl hb;rw[show k.kj sg l=k.kI ⟨1,1,l,sg,0⟩ by unfold b7.kj;rw[zzd ⟨hm,hb⟩]];refine zH hS Xh rfl ?_;refine Cg (QT sp tp dp lp k H ⟨1,1,cv,sv,0⟩ ⟨1,1,l,sg,0⟩ hx hm hk hN dH) λw hS=>?_;exact bt hS
def cV(n:Int)(l:List bS)(k:Int):List (List Row):=if n<1\/8<n then [] else (List.range n.toNat).map λt:Nat=>rF t (l.take (TY k l.length))
def S8(l:List bS)(tb:Int)(i:Nat):(rF tb (l.take i)).length<=(l.flatMap (·.changes)).length:=by
 have h2:=VM (l:=(l.take i).flatMap (·.changes)) [] tb;have e:(l.flatMap (·.changes)).length=((l.take i).flatMap (·.changes)).length+((l.drop i).flatMap (·.changes)).length:=by
  have:l=l.take i++l.drop i:=by simp
  conv=>lhs;rw[this]
  simp only[vvw,zza]
 unfold rF;simp only[yym]at h2;omega
def DT{base size:Int}(b0:0<=base)(b1:base<=12288)(s0:64<=size)(s1:size<=65536):eO eP base size=(eP,.ok ⟨[],base,size,none⟩):=
 Xm (L:=[]) (f:=base) (n:=1) trivial rfl rfl b0 b1 s0 s1 (yyv _) (by simp;omega) (by decide) (by simp[cr])
def VQ{base size:Int}(b0:0<=base)(b1:base<=12288)(s0:64<=size)(s1:size<=65536):mG ⟨[],base,size,none⟩ eP base 1 []:=
 ⟨trivial,rfl,rfl,λ_=>⟨rfl,rfl⟩,yyv _,b0,b1,s0,s1,by decide,by show base+((0:Nat):Int)+2<=base+4096;omega,rfl,rfl⟩
def WY{base size:Int}(b0:0<=base)(b1:base<=12288)(s0:64<=size)(s1:size<=65536):(⟨[],base,size,none⟩:b6).Ok 0:=⟨by simp,b0,b1,s0,s1,zzz _⟩
structure kf(n:Nat)(all:List bS):Prop where
 ok:uA n all
 len:all.length<=1000
 dY:(all.flatMap (·.changes)).length<=1000
def kf.nil(n:Nat):kf n []:=⟨⟨by simp,λi h=>by simp at h,by simp⟩,by decide,by decide⟩
def kf.take{n:Nat}{all:List bS}(h:kf n all)(j:Nat):kf n (all.take j):=by
 refine⟨⟨λt ht=>h.ok.may t (xxi ht),λi hi=>?_,λt ht=>h.ok.ch t (xxi ht)⟩,by rw[zzn];have:=h.len;omega,?_⟩
 ·rw[List.getElem_take];exact h.ok.aR i _
 have e:(all.flatMap (·.changes)).length=((all.take j).flatMap (·.changes)).length+((all.drop j).flatMap (·.changes)).length:=by
  conv=>lhs;rw[<- yyk j all]
  rw[vvw,zza]
 have:=h.dY;omega
def kf.row{n:Nat}{all:List bS}(h:kf n all):∀C∈fq n all,C.length<=1000:=λC hC=>by
 unfold fq at hC;obtain⟨t,_,rfl⟩:=zz1.1 hC;have:=S8 all (t:Int) all.length;rw[zz6]at this
 have:=h.dY;omega
def kf.rows{n:Nat}{all:List bS}(h:kf n all):∀C∈fq n all,kF C:=aF2 h.ok.may h.ok.ch
def kf.Vj{n:Nat}{all:List bS}(h:kf n all)(n1:1<=n)(n8:n<=8):ER n all:=λj hj=>by
 have ht:=h.take j;have hl:=h.len;refine pT.2 ⟨⟨by omega,by omega,by rw[o9];exact n1,by rw[o9];exact n8⟩,λC hC=>⟨(ht.rows C hC).sorted,(ht.rows C hC).rows,ht.row C hC⟩⟩
def kh.mono{k:b7}{N M:Nat}(h:kh k N)(hm:N<=M):kh k M:=⟨h.g.mono hm,h.d.mono hm,h.rows,h.len,h.n1,h.n8⟩
def kh.add{k:b7}{N:Nat}(h:kh k N){t:bS}(hm:cI t=true):kh (k.kI t).1 (N+2000):=by
 unfold b7.kI;split
 ·exact h.mono (by omega)
 split
 ·exact h.mono (by omega)
 rename_i ho hf;have K1:=rO h.g.ok.a_;have th:=MK hm (n:=bF k.g.a_+1) (by omega) (by omega);have hl:=Jo th;have hb:(jX {t with aR:=bF k.g.a_+1}).length<=1200:=hl;have hg:=PG (d:=k.d) h.g (jX {t with aR:=bF k.g.a_+1});have hd:=PL (g:=k.g) h.d (jX {t with aR:=bF k.g.a_+1});generalize jX {t with aR:=bF k.g.a_+1}=p at *
 have lH:nI k.ts t.changes=true:=by
  cases hq:nI k.ts t.changes with
  | true=>rfl
  | false=>exact absurd (Or.inl hq) hf
 simp only;split
 ·unfold nI at lH;rw[zzk,zzw,zzw]at lH
  refine⟨hg.mono (by omega),hd.mono (by omega),BG (k:=8) h.rows (iW hm).2.2.2.2.2.1 lH.1,λC hC=>zzl (lH.2 C hC),?_,?_⟩
  ·show 1<=(dV k.ts t.changes).length;rw[pk];exact h.n1
  show (dV k.ts t.changes).length<=8;rw[pk];exact h.n8
 exact⟨hg.mono (by omega),hd.mono (by omega),h.rows,h.len,h.n1,h.n8⟩
def kh.uK{k:b7}{N:Nat}(h:kh k N)(sg:Ψ)(l:List bY):kh (k.kj sg l).1 (N+2000):=by
 unfold b7.kj;split
 ·rename_i hc;exact h.add hc.1
 exact h.mono (by omega)
def oX(n:Nat)(size:Int):b7:=⟨⟨[],16,size,none⟩,eP,List.replicate n [],-1,0⟩
def aw4{n:Nat}(n1:1<=n)(n8:n<=8){size:Int}(s0:64<=size)(s1:size<=65536):nr eP n size=(eP,.ok (oX n size))/\sF n (oX n size) [] 0 [] eP 16 0 0:=by
 have l7:ui n [] [] (-1) 0:=⟨.nil,by simp,by simp,λ_=>rfl,.inl rfl,zzz _,λh=>absurd rfl h,by simp⟩;have hw:dU 16 4112 [] [] eP.R:=⟨by simp,by simp[eP],by simp⟩;have:=Xk n1 n8 (kf.nil n).ok ((kf.nil n).Vj n1 n8) (I:=[]) (tr:=0) (DT (base:=16) (by decide) (by decide) s0 s1) hw (VQ (by decide) (by decide) s0 s1) rfl l7 (zzz _) (zzz _) (by decide);rw[Ep]at this
 exact this
def AY{n:Nat}(n1:1<=n)(n8:n<=8){size:Int}(s0:64<=size)(s1:size<=65536):kh (oX n size) 0:=
 ⟨⟨WY (by decide) (by decide) s0 s1,trivial,show (0:Int)<=1099511627776 by decide,λx hx=>by cases hx⟩,we 0,λC hC=>by rw[(vv2.1 hC).2];exact NT,λC hC=>by rw[(vv2.1 hC).2];exact yye _,by show 1<=(List.replicate n []).length;rw[xxd];exact n1,by show (List.replicate n []).length<=8;rw[xxd];exact n8⟩
structure dS where
 n:Int
 state:Int
 mark:Int
 after:Int
 id:Int
 table:Int
 rows:List Row
 cN:Int
 last:Bool
abbrev mC(n:Int):dS:=⟨n,0,0,0,0,0,[],0,false⟩
def dS.DU(w:dS)(mark id table after:Int):Prop:=w.state≠0\/mark<1\/1099511627776<mark\/id<1\/64<id\/table<0\/8<=table\/after<0\/1099511627776<after
instance (w:dS) (mark id table after:Int):Decidable (w.DU mark id table after):=by unfold dS.DU;infer_instance
def dS.Xl(w:dS)(mark id table after:Int):dS:=if w.DU mark id table after then w else ⟨w.n,1,mark,after,id,table,[],0,false⟩
def NQ:Int->List Row->Bool
 | _,[]=>true
 | k,r::C=>decide (k<r.key/\r.key<=1099511627776) && NQ r.key C
def XI(after:Int)(C:List Row):Int:=(C.getLast?.map (·.key)).getD after
def dS.Cm(w:dS)(C:List Row):Prop:=w.state≠1\/w.n<C.length\/NQ w.after C=false
instance (w:dS) (C:List Row):Decidable (w.Cm C):=by unfold dS.Cm;infer_instance
def dS.fill(w:dS)(C:List Row):dS:=if w.Cm C then w else {w with state:=2,rows:=C,cN:=XI w.after C,last:=decide ((C.length:Int)<w.n)}
def dS.shut(w:dS):dS:=if w.state=2 then {w with state:=3} else w
def dS.waits(w:dS)(kind mark:Int):Bool:=decide (kind=2/\mark=w.mark/\(w.state=1\/w.state=2))
def dS.low(w:dS)(mark:Int):dS:=if w.state=3/\mark=w.mark then {w with state:=4} else w
def Uc(t:Int)(l:List bY)(r:Row):Bool:=l.any λc=>decide (c.table=t/\c.key=r.key)
def dS.see(w:dS)(l:List bY):dS:=if w.state=4 then {w with rows:=w.rows.filter λr=>!Uc w.table l r} else w
def dS.CV(w:dS)(mark aR:Int):Prop:=w.state≠4\/mark≠w.mark\/aR<1\/1099511627776<aR
instance (w:dS) (mark aR:Int):Decidable (w.CV mark aR):=by unfold dS.CV;infer_instance
def Xo(w:dS)(aR:Int):List fr:=w.rows.map λr=>⟨aR,w.table,r.key,false,r.val⟩
def WQ(w:dS):gD:=⟨2,w.id,0,0,0,w.cN,w.last⟩
def dS.high(w:dS)(mark aR:Int):dS × Option bV:=if w.CV mark aR then (w,none) else (mC w.n,some ⟨aR,Xo w aR,[WQ w]⟩)
structure fW where
 l:List (Int × Int)
 at_:Int
 left:Int
abbrev rz:fW:=⟨[],-1,0⟩
def LM(d:fW)(id:Int):Option Nat:=d.l.findIdx? λm=>decide (m.1=id)
def fW.add(d:fW)(id weight:Int):fW:=
 if id<1\/64<id\/weight<1\/8<weight then d else match LM d id with
 | some _=>d
 | none=>{d with l:=d.l++[(id,weight)]}
def fW.del(d:fW)(id:Int):fW:=match LM d id with
 | none=>d
 | some i=>⟨d.l.eraseIdx i,if (i:Int)<=d.at_ then d.at_-1 else d.at_,if (i:Int)=d.at_ then 0 else d.left⟩
def fW.place(d:fW):Int:=if d.left=0 then (if (d.l.length:Int)<=d.at_+1 then 0 else d.at_+1) else d.at_
def fW.MR(d:fW):Int × Int:=(d.l[d.place.toNat]?).getD (0,0)
def fW.next(d:fW):fW × Int:=if d.l=[] then (d,0) else (⟨d.l,d.place,(if d.left=0 then d.MR.2 else d.left)-1⟩,d.MR.1)
structure fW.Ok(d:fW):Prop where
 PS : -1<=d.at_
 Jd:d.at_<d.l.length
 bdl:0<=d.left
 bdm:d.left<=8
 neg:d.at_ = -1->d.left=0
 w:∀m∈d.l,1<=m.1/\m.1<=64/\1<=m.2/\m.2<=8
 nd:(d.l.map Prod.fst).Nodup
def bar:Φ:=[115,110,97,112,115,104,111,116,32]
def XC:Φ->Option (Int × Int)
 | [d]=>if 48<=d.toNat/\d.toNat<=55 then some ((d.toNat:Int)-48,1) else none
 | [d,s,e]=>if (48<=d.toNat/\d.toNat<=55)/\s.toNat=32/\49<=e.toNat/\e.toNat<=56 then some ((d.toNat:Int)-48,(e.toNat:Int)-48) else none
 | _=>none
def XD(s:Η):Option (Int × Int):=if s.data.toList.take 9=bar then XC (s.data.toList.drop 9) else none
structure fv where
 tables:Int
 late:Int
 at_:Int
 reqs:List Rq
 eh:dS
def vY(tables late chunk aR:Int)(L:List Rq):Prop:=tables<1\/8<tables\/late<0\/2 ^ tables.toNat<=late\/aR<0\/1099511627776<aR\/chunk<1\/64<chunk\/¬fV L\/∃r∈L,tables<=r.table\/aR<r.at_
def fv.captured(m:fv)(t:Int):Bool:=decide (0<=t/\t<m.tables) && (decide (P2 m.late t=0) || m.reqs.any λr=>decide (r.table=t))
def fv.accept(m:fv)(s:Η)(aR:Int):List Rq × List gD:=match XD s with
 | none=>(m.reqs,[])
 | some g=>if m.tables<=g.1 then (m.reqs,[]) else match rn m.reqs g.1 g.2 aR with
  | none=>(m.reqs,[])
  | some L=>(L,[⟨1,L.length,g.1,g.2,aR,0,false⟩])
def fv.I8(m:fv)(aR:Int):Ψ->fv × List gD
 | []=>(m,[])
 | s::l=>let r:=m.accept s aR;let x:=fv.I8 {m with reqs:=r.1} aR l;(x.1,r.2++x.2)
def Xn(m:fv)(aR:Int)(l:List bY):List fr:=(l.filter λc=>m.captured c.table).map λc=>⟨aR,c.table,c.key,c.gone,c.val⟩
def fv.Rp(m:fv)(t:bS):fv × bV:=
 let x:=m.I8 t.aR t.signals
 ({x.1 with eh:=x.1.eh.see t.changes},⟨t.aR,Xn x.1 t.aR t.changes,x.2⟩)
def fv.high(m:fv)(t:bS):fv × bV:=match m.eh.high t.mark t.aR with
 | (_,none)=>(m,⟨t.aR,[],[]⟩)
 | (w,some x)=>match ly m.reqs m.eh.id m.eh.cN m.eh.last with
  | none=>({m with eh:=w},{x with notes:=[]})
  | some L=>({m with eh:=w,reqs:=L},x)
def fv.take(m:fv)(t:bS):fv × (bV × Int):=
 if cI t=false then (m,(⟨0,[],[]⟩,1))
 else if t.aR≠m.at_+1\/m.eh.waits t.kind t.mark=true then (m,(⟨0,[],[]⟩,10))
 else if t.kind=1 then let r:=({m with at_:=t.aR}:fv).Rp t;(r.1,(r.2,0))
 else if t.kind=3 then let r:=({m with at_:=t.aR}:fv).high t;(r.1,(r.2,0))
 else ({m with at_:=t.aR,eh:=m.eh.low t.mark},(⟨t.aR,[],[]⟩,0))
def Ns(L:List Rq):List Rq:=L.filter λr=>!r.done
structure ju where
 k:b7
 m:fv
 d:fW
 n:Int
def NL(m:fv):Bool:=decide (m.eh.state=1\/m.eh.state=2\/(m.eh.state=0/\Ns m.reqs≠[]))
def Z_(d:fW)(L:List Rq):fW:=(Ns L).foldl (λd r=>d.add r.id r.weight) ((L.filter (·.done)).foldl (λd r=>d.del r.id) d)
def X_(L:List Rq)(id:Int):Option Rq:=if id<1 then none else L[(id-1).toNat]?
def ju.Wa(p:ju)(r:Rq):ju × (Int × Int):=
 if (p.k.vT 2 (bF p.k.g.a_+1)).2.2≠0 then ({p with k:=(p.k.vT 2 (bF p.k.g.a_+1)).1},(0,(p.k.vT 2 (bF p.k.g.a_+1)).2.2))
 else ({p with k:=(p.k.vT 2 (bF p.k.g.a_+1)).1,m:={p.m with eh:=p.m.eh.Xl (bF p.k.g.a_+1) r.id r.table r.cN}},(3,0))
def ju.V7(p:ju)(x:fW × Int):ju × (Int × Int):=match X_ p.m.reqs x.2 with
 | none=>({p with d:=x.1},(0,0))
 | some r=>({p with d:=x.1}:ju).Wa r
def ju.V6(p:ju):ju × (Int × Int):=p.V7 (Z_ p.d p.m.reqs).next
def ju.Ua(p:ju):ju × (Int × Int):=
 let y:=p.k.vT 3 p.m.eh.mark
 if y.2.2≠0 then ({p with k:=y.1},(0,y.2.2)) else ({p with k:=y.1,m:={p.m with eh:=p.m.eh.shut}},(5,0))
def ju.step(p:ju):ju × (Int × Int):=
 if NL p.m=false then (p,(0,0))
 else if p.m.eh.state=0 then p.V6
 else if p.m.eh.state=1 then ({p with m:={p.m with eh:=p.m.eh.fill (p.k.Ro p.m.eh.table p.m.eh.after p.n)}},(4,0))
 else p.Ua
section
variable {lo hi:Int} {A B:List PF} {d:DS}
end
def c_.Al(A:List PF)(k:c_):c_:={k with d:=fN A [] k.d}
structure Ba(A:List PF)(k:c_):Prop where
 w:dU 8192 12288 A [] k.d.R
 g:O' 8192 12288 k.g
def b7.Al(B:List PF)(k:b7):b7:={k with d:=fN [] B k.d}
structure wN(n:Nat)(all:List bS):Prop where
 ok:uA n all
 len:all.length<=1000
 row:∀j,∀C∈fq n (all.take j),C.length<=1000
def wN.nil(n:Nat):wN n []:=⟨(kf.nil n).ok,by decide,λj=>by rw[List.take_nil];exact (kf.nil n).row⟩
structure KV(n tr N:Nat)(AL:List bS)(k:b7):Prop where
 SS:wN n AL
 live:∃I d0 f lo m,sF n k AL tr I d0 f lo m
 off:k.d.off=false
 arm:0<=k.d.arm
 ok:kh k N
def KV.ts{n tr N:Nat}{AL:List bS}{k:b7}(h:KV n tr N AL k):k.ts=fq n AL:=by
 obtain⟨I,d0,f,lo,m,hL⟩:=h.live;exact hL.ts
def sF.wd{n:Nat}{k:b7}{all:List bS}{tr:Nat}{I:List PF}{d0:DS}{f:Int}{lo m:Nat}(h:sF n k all tr I d0 f lo m){d':DS}(hR:d'.R=k.d.R):sF n {k with d:=d'} all tr I {d' with R:=d0.R} f lo m:=by
 have e:d'.R=I++d0.R++[]:=by rw[hR,h.R8];rfl
 refine⟨?_,h.eh,h.log.bap rfl,h.base,h.Vb,h.image,h.V1,h.V3,h.ts,h.file⟩;cases d';simp only at e;subst e;rfl
def DS.Ok.wd{d d':DS}{N:Nat}(h:d.Ok N)(hR:d'.R=d.R)(a0:0<=d'.arm)(a1:d'.arm<=9223372036854775807):d'.Ok N:=⟨by rw[hR];exact h.sorted,by rw[hR];exact h.ids,by rw[hR];exact h.safe,by rw[hR];exact h.len,a0,a1⟩
def KV.wd{n tr N:Nat}{AL:List bS}{k:b7}(h:KV n tr N AL k){d':DS}(hR:d'.R=k.d.R)(ho:d'.off=false)(a0:0<=d'.arm)(a1:d'.arm<=9223372036854775807):KV n tr N AL {k with d:=d'}:=by
 obtain⟨I,d0,f,lo,m,hL⟩:=h.live;exact⟨h.SS,⟨I,_,f,lo,m,hL.wd hR⟩,ho,a0,⟨h.ok.g,h.ok.d.wd hR a0 a1,h.ok.rows,h.ok.len,h.ok.n1,h.ok.n8⟩⟩
def Sd:rz.Ok:=⟨by decide,by decide,by decide,by decide,λ_=>rfl,by simp,by simp⟩
def Ring(b cap:Nat)(L:Ψ):zw:=gi λc:Nat=>gi λfirst:Nat=>gi λA:Ψ=>
 zG (A.length=cap/\0<cap/\cap<=64/\first<cap/\L.length<=cap/\∀i,i<L.length->A[(first+i) % cap]?=L[i]?)
 [.pt b [.slice (some ⟨c,0,none⟩) cap cap,Γ first,Γ L.length] 206,.pt c (A.map .string) 9]
def Ring.open{W w:Ζ}{b cap:Nat}{L:Ψ}{l:Β}(h:SL W (.ob (Ring b cap L)::l) w):∃(c first:Nat) (A:Ψ),
  (A.length=cap/\0<cap/\cap<=64/\first<cap/\L.length<=cap/\∀i,i<L.length->A[(first+i) % cap]?=L[i]?) /\
  SL W (.pt b [.slice (some ⟨c,0,none⟩) cap cap,Γ first,Γ L.length] 206::.pt c (A.map .string) 9::l) w:=by
 simpa only[Ring,SL.ex,SL.fact,zzq,zzp] using h
def Ring.close{W w:Ζ}{b c first cap:Nat}{L A:Ψ}{l:Β}(hA:A.length=cap/\0<cap/\cap<=64/\first<cap/\L.length<=cap/\∀i,i<L.length->A[(first+i) % cap]?=L[i]?)
  (h:SL W (.pt b [.slice (some ⟨c,0,none⟩) cap cap,Γ first,Γ L.length] 206::.pt c (A.map .string) 9::l) w):SL W (.ob (Ring b cap L)::l) w:=by
 simp only[Ring,SL.ex,SL.fact,zzq,zzp];exact⟨c,first,A,hA,h⟩
def ZF(b cap:Nat)(L:Ψ):SP 92 [Δ b] [.ob (Ring b cap L)] (bj (Γ L.length) [.ob (Ring b cap L)]):=by
 refine Enzz λW F w hS=>?_;apply baa;delta bd;obtain⟨c,first,A,hA,hS⟩:=Ring.open hS;refine Gp ?_;have hS:=Ring.close hA hS;(exact bt hS)
def Q2(b cap:Nat)(L:Ψ):SP 137 [Δ b] [.ob (Ring b cap L)] (bj (Γ cap) [.ob (Ring b cap L)]):=by
 refine Enzz λW F w hS=>?_;apply aRs;delta bd;obtain⟨c,first,A,hA,hS⟩:=Ring.open hS;refine Gp ?_;have hS:=Ring.close hA hS;(exact bt hS)
def M5(n:Nat)(h1:1<=n)(h2:n<=64):SP 148 [Γ n] [] (λv post=>∃b:Nat,v= .tuple #[Δ b,Γ 0]/\post=[.ob (Ring b n [])]):=by
 refine Enzz λW F w hS=>?_;apply aR3;delta aF ai bC bn aZ;refine Gp ?_;refine Χ ?_;refine Gp ?_;refine Χ ?_;refine N3 hS (zzz _) (by omega) (by omega) ?_;clear hS;intro c w hS;refine Gp ?_;refine⟨_,rfl,zD hS ?_⟩;clear hS;intro b w hS;have hS:=Ring.close (A:=List.replicate n ⟨#[]⟩) (L:=[]) (first:=0) (cap:=n) (b:=b) (c:=c) (l:=F) ⟨by simp,by omega,by omega,by omega,by simp,λi hi=>by simp at hi⟩ (by simpa [bq] using hS);exact⟨_,⟨b,rfl,rfl⟩,hS⟩
def Gate(g b cap out:Nat)(L:Ψ):zw:=zG (L.length+out<=cap/\cap<=64) [.pt g [Δ b,Γ out] 159,.ob (Ring b cap L)]
def Gate.open{W w:Ζ}{g b cap out:Nat}{L:Ψ}{l:Β}(h:SL W (.ob (Gate g b cap out L)::l) w):(L.length+out<=cap/\cap<=64) /\
  SL W (.pt g [Δ b,Γ out] 159::.ob (Ring b cap L)::l) w:=by
 simpa only[Gate,SL.fact,zzq,zzp] using h
def Gate.close{W w:Ζ}{g b cap out:Nat}{L:Ψ}{l:Β}(hA:L.length+out<=cap/\cap<=64)
  (h:SL W (.pt g [Δ b,Γ out] 159::.ob (Ring b cap L)::l) w):SL W (.ob (Gate g b cap out L)::l) w:=by
 simp only[Gate,SL.fact,zzq,zzp];exact⟨hA,h⟩
def Tk(n:Nat)(h1:1<=n)(h2:n<=64):SP 149 [Γ n] [] (λv post=>∃g b:Nat,v= .tuple #[Δ g,Γ 0]/\post=[.ob (Gate g b n 0 [])]):=by
 refine Enzz λW F w hS=>?_;apply aR4;delta aF ai bC;refine Cc (M5 n h1 h2) ?_;clear hS;rintro v post ⟨b,rfl,rfl⟩ w hS;(try simp only[app]at hS);refine Gp ?_
 refine za (λh1=>absurd rfl h1) (λh1=>?_);refine Gp ?_;refine⟨_,rfl,zD hS ?_⟩;clear hS;intro g w hS;have hS:=Gate.close (out:=0) ⟨by simp,h2⟩ hS;exact⟨_,⟨g,b,rfl,rfl⟩,hS⟩
def Yl(g b cap out:Nat)(L:Ψ):SP 94 [Δ g] [.ob (Gate g b cap out L)] (bj (Γ ((cap-L.length-out:Nat):Int)) [.ob (Gate g b cap out L)]):=by
 refine Enzz λW F w hS=>?_;apply bac;delta bd ba bG;obtain⟨hA,hS⟩:=Gate.open hS;refine Gn λw hS=>?_;refine Cg (Q2 b cap L) λw hS=>?_;refine Cg (ZF b cap L) λw hS=>?_;have hS:=Gate.close (l:=F) hA (by exact aI hS);rw[show (cap:Int)-(L.length:Int)-(out:Int)=((cap-L.length-out:Nat):Int) by omega];(exact bt hS)
def Th(n:Int)(out:Nat):Nat:=(min (max n 0) (out:Int)).toNat
def Qx(g b cap out:Nat)(L:Ψ):SP 93 [Δ g] [.ob (Gate g b cap out L)] (bj (Γ out) [.ob (Gate g b cap out L)]):=by
 refine Enzz λW F w hS=>?_;apply bab;delta bd;obtain⟨hA,hS⟩:=Gate.open hS;refine Gp ?_;have hS:=Gate.close (l:=F) hA (by exact aI hS);(exact bt hS)
abbrev oz(b m j:Int):Prop:=1<=b/\b<=1073741824/\b<=m/\m<=1073741824/\0<=j/\j<=1073741824
def R'(k:Nat)(b m:Int):Int:=min (b*2 ^ k) m
def R9(k b m:Int):Int:=if oz b m 0 then R' k.toNat b m else 0
def bak(k b m j draw:Int):Int:=if oz b m j then R9 k b m+max draw 0 % (j+1) else 0
def ZZ(b m j:Int):SP 114 [Γ b,Γ m,Γ j] [] (bj (.bool (decide (oz b m j))) []):=by
 refine Enzz λW F w hS=>?_;apply aRg;delta aF bc ai;have hF:∀{w:Ζ},¬oz b m j->SL W F w->∃post,bj (.bool (decide (oz b m j))) [] (.bool false) post/\SL W (app post F) w:=λh hS=>⟨_,⟨by rw[zz5 h],rfl⟩,hS⟩;(repeat (first|refine Gp ?_|refine Gw λw hS=>?_|refine za (λ_=>hF (by omega) hS) (λ_=>?_)|refine za (λ_=>?_) (λ_=>hF (by omega) hS)))
 have e:decide (j<=1073741824)=decide (oz b m j):=by rw[yyd];omega
 rw[e];exact⟨_,⟨rfl,rfl⟩,hS⟩
def Rr(now:Int):Int:=max 0 (min now 1125899906842624)
abbrev rtc(b m j f u:Int):Ξ:=[Γ b,Γ m,Γ j,Γ f,Γ u]
abbrev kG(p:Nat)(b m j f u:Int):Μ:=.pt p (rtc b m j f u) 217
def QX(b m j:Int):SP 150 [Γ b,Γ m,Γ j] [] (λv post=>if oz b m j then ∃p:Nat,v= .tuple #[Δ p,Γ 0]/\post=[kG p b m j 0 0] else v= .tuple #[.pointer none,Γ 1]/\post=[]):=by
 refine Enzz λW F w hS=>?_;apply aR6;delta bD ai bC;refine Cc (ZZ b m j) ?_;clear hS;rintro v post ⟨rfl,rfl⟩ w hS;try simp only[app]at hS
 by_cases hm:oz b m j
 ·rw[zzr hm];refine Gp ?_;refine zs ?_;refine Gp ?_;refine⟨_,rfl,zD hS λp w hS=>?_⟩;exact⟨[kG p b m j 0 0],(zzd hm).mpr ⟨p,rfl,rfl⟩,hS⟩
 rw[zz5 hm];refine Gp ?_;refine zt ?_;exact⟨[],(zzb hm).mpr ⟨rfl,rfl⟩,hS⟩
def qh(p:Nat)(b m j f u:Int):SP 97 [Δ p] [kG p b m j f u] (bj (Γ f) [kG p b m j f u]):=by
 refine Enzz λW F w hS=>?_;apply bag;delta bd;refine Gp ?_;(exact bt hS)
def qi(p:Nat)(b m j f u:Int):SP 98 [Δ p] [kG p b m j f u] (bj (Γ u) [kG p b m j f u]):=by
 refine Enzz λW F w hS=>?_;apply bah;delta bd;refine Gp ?_;(exact bt hS)
def nZ:bV:=⟨0,[],[]⟩
def jn(a x:bV):bV:=⟨x.aR,a.ops++x.ops,a.notes++x.notes⟩
def Dv(l:List bV):bV:=l.foldl jn nZ
structure rl(n:Nat)(x:bV):Prop where
 may:fy x=true
 cV:sq n x=true
 ops:x.ops.length<=64
 iC:x.notes.length<=4
def iL:Int->List bV->Prop
 | _,[]=>True
 | b,x::l=>b<x.aR/\iL x.aR l
def iL.mono{b c:Int}(h:c<=b):∀{l:List bV},iL b l->iL c l
 | [],_=>trivial
 | _::_,⟨h1,h2⟩=>⟨by omega,h2⟩
def tz(b:Int)(l:List bV):Int:=l.foldl (λ_ x=>x.aR) b
def iL.append{l':List bV}:∀{l:List bV} {b:Int},iL b (l++l')↔iL b l/\iL (tz b l) l'
 | [],b=>⟨λh=>⟨trivial,h⟩,λh=>h.2⟩
 | x::l,b=>by
  show b<x.aR/\iL x.aR (l++l')↔(b<x.aR/\iL x.aR l)/\iL (tz x.aR l) l';rw[iL.append (l:=l) (b:=x.aR)];exact⟨λ⟨a,b,c⟩=>⟨⟨a,b⟩,c⟩,λ⟨⟨a,b⟩,c⟩=>⟨a,b,c⟩⟩
def iL.last{b:Int}:∀{l:List bV},iL b l->b<=tz b l:=λ{l}=>by
 induction l generalizing b with
 | nil=>intro _;exact yyv _
 | cons x l ih=>rintro ⟨h1,h2⟩;have:=ih h2;show b<=tz x.aR l;omega
structure lu(n:Nat)(a:bV)(k:Nat):Prop where
 l0:0<=a.aR
 l1:a.aR<=1099511627776
 pos:0<k->1<=a.aR
 iC:a.notes.length<=4*k
 WT:∀m∈a.notes,iU m a.aR=true
 len:a.ops.length<=64*k
 ops:∀o∈a.ops,jB o a.aR=true
 OE:∀o∈a.ops,o.table<(n:Int)
def Wh{o:fr}{l l':Int}(h:jB o l=true)(hl:l<=l'):jB o l'=true:=by
 unfold jB at *
 rw[zzo]at *
 exact⟨h.1,by omega,h.2.2⟩
def Wg{m:gD}{l l':Int}(h:iU m l=true)(hl:l<=l'):iU m l'=true:=by
 unfold iU at *
 rw[zzo]at *
 obtain⟨h1,h2,⟨a1,a2,a3,a4,a5,a6,a7,a8⟩|h3⟩:=h
 ·exact⟨h1,h2,.inl ⟨a1,a2,a3,a4,a5,a6,by omega,a8⟩⟩
 exact⟨h1,h2,.inr h3⟩
def rl.iff{n:Nat}{x:bV}(h:rl n x):(1<=x.aR/\x.aR<=1099511627776)/\(∀o∈x.ops,jB o x.aR=true)/\(∀m∈x.notes,iU m x.aR=true)/\∀o∈x.ops,o.table<(n:Int):=by
 obtain⟨⟨h1,h2,_⟩,h3,h4⟩:=vU.1 h.may;have ht:=h.cV;unfold sq at ht;rw[zzw]at ht
 exact⟨⟨h1,h2⟩,h3,h4,λo ho=>zzl (ht o ho)⟩
def lu.zero(n:Nat):lu n nZ 0:=⟨yyv _,by show (0:Int)<=_;decide,λh=>by omega,zzz _,λo h=>(by cases h),zzz _,λo h=>(by cases h),λo h=>(by cases h)⟩
def lu.step{n:Nat}{a x:bV}{k:Nat}(h:lu n a k)(hx:rl n x)(hl:a.aR<x.aR):lu n (jn a x) (k+1):=by
 obtain⟨⟨h1,h2⟩,h3,oP,h4⟩:=hx.iff;have h5:=hx.ops;have h6:=h.len;have h7:=hx.iC;have h8:=h.iC;refine⟨by show 0<=x.aR;omega,h2,λ_=>h1,by show (a.notes++x.notes).length<=_;rw[zza];omega,λm hm=>?_,by show (a.ops++x.ops).length<=_;rw[zza];omega,λo ho=>?_,λo ho=>?_⟩
 ·rcases yyb.1 hm with hm|hm
  ·exact Wg (h.WT m hm) (by show a.aR<=x.aR;omega)
  exact oP m hm
 ·rcases yyb.1 ho with ho|ho
  ·exact Wh (h.ops o ho) (by show a.aR<=x.aR;omega)
  exact h3 o ho
 rcases yyb.1 ho with ho|ho
 ·exact h.OE o ho
 exact h4 o ho
def lu.fold{n:Nat}:∀(l:List bV) {a:bV} {k:Nat},lu n a k->(∀x∈l,rl n x)->iL a.aR l->lu n (l.foldl jn a) (k+l.length)
 | [],a,k,h,_,_=>h
 | x::l,a,k,h,hx,⟨UB,pI⟩=>by
  have:=lu.fold l (h.step (hx x (.head _)) UB) (λy hy=>hx y (.tail _ hy)) pI;rw[zzg,show k+(l.length+1)=k+1+l.length by omega];exact this
def Vr{n:Nat}{l:List bV}(h:∀x∈l,rl n x)(hr:iL 0 l):lu n (Dv l) l.length:=by
 have:=lu.fold (n:=n) l (lu.zero n) h hr;rw[zz2]at this
 exact this
structure gZ where
 k:c_
 L:List bV
 out:Nat
 ib:Int
 jb:Int
 held:bV
 n:Nat
structure df where
 cap:Nat
 cC:Nat
 b:Int
 m:Int
 j:Int
def gZ.ready(s:gZ)(now:Int):Bool:=if 0<s.n then decide (s.jb<=now) else decide (0<s.L.length)
def gZ.hold(s:gZ)(cC:Nat):gZ:=if s.n=0 then {s with L:=s.L.drop cC,out:=s.out+min cC s.L.length,held:=Dv (s.L.take cC),n:=min cC s.L.length} else s
def gZ.hand(c:df)(s:gZ)(now draw:Int):gZ × Int × Int:=
 if (s.k.sM s.held).2=0 then ({s with k:=(s.k.sM s.held).1,out:=s.out-Th s.n s.out,ib:=0,jb:=0,held:=nZ,n:=0},6,0)
 else if (s.k.sM s.held).2=9 then ({s with k:=(s.k.sM s.held).1,ib:=s.ib+1,jb:=Rr now+bak (s.ib+1) c.b c.m c.j draw},7,0)
 else ({s with k:=(s.k.sM s.held).1},0,(s.k.sM s.held).2)
def gZ.step(c:df)(s:gZ)(now draw:Int):gZ × Int × Int:=if s.ready now=true then (s.hold c.cC).hand c now draw else (s,0,0)
structure I6(c:df)(cV:Nat)(s:gZ)(f:Nat):Prop where
 ba8:1<=c.cap
 cap:c.cap<=64
 bdo:1<=c.cC
 cC:c.cC<=64
 it:∀x∈s.L,rl cV x
 NP:iL 0 s.L
 room:s.L.length+s.out<=c.cap
 out:s.out=s.n
 held:(s.n=0/\s.held=nZ)\/(0<s.n/\lu cV s.held s.n)
 f0:0<=s.ib
 f1:s.ib<=f
structure dm where
 tables:Int
 late:Int
 size:Int
 queue:Int
 chunk:Int
 batch:Int
 base:Int
 cC:Int
 Am:Int
 every:Int
def pr(c:dm):Ξ:=[Γ c.tables,Γ c.late,Γ c.size,Γ c.queue,Γ c.chunk,Γ c.batch,Γ c.base,Γ c.cC,Γ c.Am,Γ c.every]
def N8{a:Int}{k:IntKind}{n:Nat}{K:Ε->Prop}(hn:n<=60)(hr : -9223372036854775808<=a*2 ^ n/\a*2 ^ n<=9223372036854775807)(h:K (Γ (a*2 ^ n))):zc .shl (Γ a) (.int k (n:Int)) K:=by
 refine⟨Γ (a*2 ^ n),?_,h⟩;have C9:min n 64=n:=vvg (by omega);show (if ((n:Nat):Int)<0 then none else some (Γ (IntKind.i64.wrap (a*2 ^ (min ((n:Nat):Int).toNat 64)))))=_;rw[zzb (by omega),zzy,C9,xxu _ hr]
structure bB where
 kind:Int
 n:Int
 sg:Ψ
 l:List bY
 ft:fE
 bh:Ω
instance (a b:fE):Decidable (a=b):=decidable_of_iff (a.kind=b.kind/\a.bh=b.bh) (by obtain⟨a1,a2⟩:=a;obtain⟨b1,b2⟩:=b;simp)
def tM{α β:Type}(f:α->β):∀l:List α,(l.map λs=>[f s]).flatten=l.map f
 | []=>rfl
 | a::l=>by rw[zzj,zzt,tM f l];rfl
def dL:fE:=⟨0,0⟩
def gA(k:Int):bB:=⟨k,0,[],[],dL,[]⟩
structure dJ where
 kind:Int
 n:Int
 sv:Ε
 cv:Ε
 ft:fE
 kv:Ε
def bT(x:dJ):Ξ:=[Γ x.kind,Γ x.n,x.sv,x.cv,Γ x.ft.kind,Γ x.ft.bh,x.kv]
def iy(x:dJ):(bT x).length=7:=rfl
structure dG(H:aX)(x:dJ)(s:bB):Prop where
 kind:x.kind=s.kind
 n:x.n=s.n
 ft:x.ft=s.ft
 sv:bK H 1 x.sv s.sg.length (s.sg.map Value.string)
 cv:bK H 4 x.cv s.l.length (s.l.map dh).flatten
 kv:bK H 1 x.kv s.bh.length (s.bh.map (Value.int .i64))
def dG.mono{H H':aX}(hh:H.le H'){x:dJ}{s:bB}(h:dG H x s):dG H' x s:=⟨h.kind,h.n,h.ft,h.sv.mono hh,h.cv.mono hh,h.kv.mono hh⟩
def eJ(H:aX)(v:Ε)(l:List bB):Prop:=∃xs:List dJ,xs.length=l.length/\bK H 7 v l.length (xs.map bT).flatten/\∀i (h:i<l.length) (h':i<xs.length),dG H xs[i] l[i]
def eJ.mono{H H':aX}(hh:H.le H'){v:Ε}{l:List bB}(h:eJ H v l):eJ H' v l:=by
 obtain⟨xs,h1,h2,h3⟩:=h;exact⟨xs,h1,h2.mono hh,λi hi CU=>(h3 i hi CU).mono hh⟩
def An(l:Ω):Bool:=l.all λk=>decide (0<=k/\k<=2147483647)
def du(s:bB):Bool:=
 decide ((1<=s.kind/\s.kind<=8)/\(0<=s.n/\s.n<=1125899906842624)/\(s.n=0\/s.kind=2\/s.kind=4\/s.kind=5\/s.kind=7)/\(s.ft=dL\/s.kind=3)/\(s.sg.length=0\/s.kind=1)/\(s.l.length=0\/s.kind=1)/\(s.bh.length=0\/s.kind=8)/\(s.kind=3->eY s.ft=true/\s.ft.bh<=2147483647)/\s.bh.length<=64) && cI ⟨1,1,s.l,s.sg,0⟩ && An s.bh
def iA{s:bB}:du s=true↔((1<=s.kind/\s.kind<=8)/\(0<=s.n/\s.n<=1125899906842624)/\(s.n=0\/s.kind=2\/s.kind=4\/s.kind=5\/s.kind=7)/\(s.ft=dL\/s.kind=3)/\(s.sg.length=0\/s.kind=1)/\(s.l.length=0\/s.kind=1)/\(s.bh.length=0\/s.kind=8)/\(s.kind=3->eY s.ft=true/\s.ft.bh<=2147483647)/\s.bh.length<=64)/\cI ⟨1,1,s.l,s.sg,0⟩=true/\∀k∈s.bh,0<=k/\k<=2147483647:=by
 unfold du An;rw[zzk,zzk,zzo,zzw,and_assoc];simp only[zzo]
def iV(l:List bB):Bool:=l.all du && decide (l.length<=1000)
def jM{l:List bB}:iV l=true↔(∀s∈l,du s=true)/\l.length<=1000:=by
 unfold iV;rw[zzk,zzw,zzo]
def nH(s:bB):List bz:=[iF s.sg.length]++s.sg.map tF++([iF s.l.length]++(s.l.map fI).flatten)
def gU(s:bB):List bz:=
 if s.kind=1 then nH s else if s.kind=3 then [iF s.ft.kind,iF s.ft.bh] else if s.kind=6 then [] else if s.kind=8 then [iF s.bh.length]++s.bh.map iF else [iF s.n]
def eK(s:bB):List bz:=[iF s.kind]++gU s
def jw(l:List bB):List bz:=[iF l.length]++(l.map eK).flatten
def l4(l:List bB):Except Int Φ:=if iV l=true then gl (jw l) else .error 1
def tH(k:Int)(x:(Int × Ψ) × (Int × List bY)):bB:={gA k with sg:=x.1.2,l:=x.2.2}
def tI(k:Int)(x:Int × Int):bB:={gA k with ft:=⟨x.1,x.2⟩}
def n3(k:Int)(x:Int × Ω):bB:={gA k with bh:=x.2}
def pU(k:Int)(x:Int):bB:={gA k with n:=x}
def gR(k:Int):bf->bB × bf:=
 if k=1 then eX (tH k) (cL (dO (bm 2) (cz cJ)) λ_=>dO (bm 16) (cz fJ))
 else if k=3 then eX (tI k) (cL (bm 3) λ_=>bm 2147483647)
 else if k=6 then λr=>(gA k,r)
 else if k=8 then eX (n3 k) (dO (bm 64) (cz (bm 2147483647)))
 else eX (pU k) cG
def fP(k:Int):bf->bB × bf:=
 if k=1 then eX (tH k) (cL (dO (bJ 2) (bW cJ)) λ_=>dO (bJ 16) (bW jv))
 else if k=3 then eX (tI k) (cL (bJ 3) λ_=>bJ 2147483647)
 else if k=6 then λr=>(gA k,r)
 else if k=8 then eX (n3 k) (dO (bJ 64) (bW (bJ 2147483647)))
 else eX (pU k) (bJ 1125899906842624)
def ja:bf->bB × bf:=eX Prod.snd (cL (bm 8) gR)
def jE:bf->bB × bf:=eX Prod.snd (cL (bJ 8) fP)
def jq:bf->(Int × List bB) × bf:=dO (bm 1000) (bW ja)
def oe:bf->(Int × List bB) × bf:=dO (bJ 1000) (bW jE)
def wP(s:bB):Prop:=(∃c∈s.l,wO c)\/¬(0<=s.n/\s.n<=1125899906842624)
def Rx:cZ (cL (dO (bm 2) (cz cJ)) λ_=>dO (bm 16) (cz fJ)):=((j9 _).seq λn=>j_.cz _).seq λ_=>(j9 _).seq λn=>sL.cz _
def Rw:cZ (cL (dO (bJ 2) (bW cJ)) λ_=>dO (bJ 16) (bW jv)):=((j5 _).seq λn=>j_.many _).seq λ_=>(j5 _).seq λn=>xa.many _
def BN(k:Int):cZ (gR k):=by
 unfold gR;split
 ·exact Rx.map _
 split
 ·exact ((j9 _).seq λ_=>j9 _).map _
 split
 ·exact λr h=>h
 split
 ·exact cZ.map _ ((j9 _).seq λn=>(j9 _).cz _)
 exact vQ.map _
def Jk(k:Int):cZ (fP k):=by
 unfold fP;split
 ·exact Rw.map _
 split
 ·exact ((j5 _).seq λ_=>j5 _).map _
 split
 ·exact λr h=>h
 split
 ·exact cZ.map _ ((j5 _).seq λn=>(j5 _).many _)
 exact (j5 _).map _
def P4(k:Int):fS (gR k) (fP k) wP:=by
 unfold gR fP;split
 ·have c1:fS (dO (bm 16) (cz fJ)) (dO (bJ 16) (bW jv)) λx=>False\/∃o∈x.2,wO o:=(p8 16).seq (λn=>Rj.cz sL xa n.toNat) (λn=>xa.many _) (λn=>sL.cz _);have s1:fS (dO (bm 2) (cz cJ)) (dO (bJ 2) (bW cJ)) λx=>False\/∃o∈x.2,False:=(p8 2).seq (λn=>OM.cz j_ j_ n.toNat) (λn=>j_.many _) (λn=>j_.cz _);refine (s1.seq (f:=λ_=>dO (bm 16) (cz fJ)) (g:=λ_=>dO (bJ 16) (bW jv)) (λ_=>c1) (λ_=>(j5 _).seq λn=>xa.many _) (λ_=>(j9 _).seq λn=>sL.cz _)).map _ λx h=>?_;rcases h with (h|⟨_,_,h⟩)|(h|h)
  ·exact h.elim
  ·exact h.elim
  ·exact h.elim
  exact .inl h
 split
 ·refine ((p8 3).seq (f:=λ_=>bm 2147483647) (g:=λ_=>bJ 2147483647) (λ_=>p8 _) (λ_=>j5 _) (λ_=>j9 _)).map _ λx h=>?_;rcases h with h|h<;>exact h.elim
 split
 ·exact⟨λr _=>rfl,λr h=>.inl h⟩
 split
 ·have s1:fS (dO (bm 64) (cz (bm 2147483647))) (dO (bJ 64) (bW (bJ 2147483647))) λx=>False\/∃o∈x.2,False:=(p8 64).seq (λn=>(p8 _).cz (j9 _) (j5 _) n.toNat) (λn=>(j5 _).many _) (λn=>(j9 _).cz _);refine s1.map _ λx h=>?_;rcases h with h|⟨_,_,h⟩<;>exact h.elim
 exact (Dq _).map _ λx h=>.inr h
def Ej:cZ ja:=((j9 _).seq BN).map _
def Ow:cZ jE:=((j5 _).seq Jk).map _
def aFh:fS ja jE wP:=((p8 8).seq P4 Jk BN).map _ λx h=>h.elim (λh=>h.elim) id
def Od:fS jq oe λx=>False\/∃s∈x.2,wP s:=(p8 1000).seq (λn=>aFh.many Ej Ow n.toNat) (λn=>Ow.many _) (λn=>Ej.many _)
def Wm{s:bB}(h:du s=true):¬wP s:=by
 obtain⟨⟨_,h2,_⟩,h3,_⟩:=iA.1 h;rintro (⟨c,hc,hv⟩|hv)
 ·have:=pS.1 ((iW h3).2.2.2.2.2.1 c hc);unfold wO at hv;omega
 exact hv h2
def mr(x:(Int × List bB) × bf):Prop:=(x.2.bad=false/\x.2.l=[])/\iV x.1.2=true
instance (x:(Int × List bB) × bf):Decidable (mr x):=by unfold mr;infer_instance
def h_(b:Φ):Except Int (List bB):=match dK b with
 | .error e=>.error e
 | .ok l=>if mr (jq ⟨l,false⟩) then .ok (jq ⟨l,false⟩).1.2 else .error 3
def Oe(l:List bz):(mr (oe ⟨l,false⟩)/\(oe ⟨l,false⟩)=jq ⟨l,false⟩)\/(¬mr (oe ⟨l,false⟩)/\¬mr (jq ⟨l,false⟩)):=by
 cases hb:(oe ⟨l,false⟩).2.bad with
 | false=>
  have e:=Od.same _ hb;by_cases h:mr (oe ⟨l,false⟩)
  ·exact .inl ⟨h,e.symm⟩
  exact .inr ⟨h,by rw[e];exact h⟩
 | true=>
  refine .inr ⟨λh=>(by have h1:=h.1.1;rw[hb]at h1;cases h1),λh=>?_⟩;rcases Od.bad _ hb with h2|h2|⟨s,hs,hv⟩
  ·have h1:=h.1.1;rw[h2]at h1;cases h1
  ·exact h2
  exact Wm ((jM.1 h.2).1 s hs) hv
def p6{m n:Int}{l:List bz}(h:0<=n/\n<=m):bm m ⟨iF n::l,false⟩=(n,⟨l,false⟩):=p7 h
def P6{s:bB}(h:du s=true)(l:List bz):gR s.kind ⟨gU s++l,false⟩=(s,⟨l,false⟩):=by
 obtain⟨⟨h1,h2,h3,h4,h5,h6,h7,h8,h9⟩,kR,oO⟩:=iA.1 h;obtain⟨_,_,_,t4,t5,t6,t7⟩:=iW kR;have t4:s.l.length<=16:=t4;have t5:s.sg.length<=2:=t5;obtain⟨k,n,sg,cl,ft,kp⟩:=s;simp only at *
 have e0:∀{α:Type} {l:List α},l.length=0\/k=1->k≠1->l=[]:=λh hk=>yyr.1 (h.resolve_right hk);unfold gR gU;simp only;by_cases k1:k=1
 ·subst k1;rw[zzd rfl,zzd rfl];have hn:n=0:=by omega
  have hf:ft=dL:=by rcases h4 with h|h;exact h;omega
  have hk:kp=[]:=yyr.1 (by omega);subst hn hf hk;unfold nH eX cL dO cL;have e1:bm 2 ⟨[iF (sg.length:Int)]++sg.map tF++([iF (cl.length:Int)]++(cl.map fI).flatten)++l,false⟩=((sg.length:Int),⟨sg.map tF++([iF (cl.length:Int)]++(cl.map fI).flatten++l),false⟩):=by
   simp only[zze,zzq,zzp];exact p6 ⟨wwb _,by omega⟩
  have e2:cz cJ sg.length ⟨sg.map tF++([iF (cl.length:Int)]++(cl.map fI).flatten++l),false⟩=(sg,⟨[iF (cl.length:Int)]++(cl.map fI).flatten++l,false⟩):=by
   have:=r8 (one:=cJ) (f:=λs=>[tF s]) sg ([iF (cl.length:Int)]++(cl.map fI).flatten++l) λx _ l=>rfl
   rwa [tM tF sg]at this
  have e3:bm 16 ⟨[iF (cl.length:Int)]++(cl.map fI).flatten++l,false⟩=((cl.length:Int),⟨(cl.map fI).flatten++l,false⟩):=p6 ⟨wwb _,by omega⟩;have e4:cz fJ cl.length ⟨(cl.map fI).flatten++l,false⟩=(cl,⟨l,false⟩):=r8 cl l λc hc l=>Jr (by have:=pS.1 (t6 c hc);omega);simp only[e1,zzy,e2,e3,e4];rfl
 have Ab:=yyr.1 (h5.resolve_right k1);have na:=yyr.1 (h6.resolve_right k1);subst Ab na;rw[zzb k1,zzb k1];by_cases k3:k=3
 ·subst k3;have hn:n=0:=by omega
  have hk:kp=[]:=yyr.1 (by omega);subst hn hk;obtain⟨h8,Cy⟩:=h8 rfl;unfold eY at h8;rw[zzo]at h8
  rw[zzd rfl,zzd rfl];obtain⟨fk,fp⟩:=ft;simp only at h8 Cy;unfold eX cL;have e1:bm 3 ⟨[iF fk,iF fp]++l,false⟩=(fk,⟨iF fp::l,false⟩):=p6 (by omega);have e2:bm 2147483647 ⟨iF fp::l,false⟩=(fp,⟨l,false⟩):=p6 (by omega);simp only[e1,e2];rfl
 have hf:=h4.resolve_right k3;subst hf;rw[zzb k3,zzb k3];by_cases k6:k=6
 ·subst k6;have hn:n=0:=by omega
  have hk:kp=[]:=yyr.1 (by omega);subst hn hk;rw[zzd rfl,zzd rfl];rfl
 rw[zzb k6,zzb k6];by_cases k8:k=8
 ·subst k8;have hn:n=0:=by omega
  subst hn;rw[zzd rfl,zzd rfl];unfold eX dO cL;have e1:bm 64 ⟨[iF (kp.length:Int)]++kp.map iF++l,false⟩=((kp.length:Int),⟨kp.map iF++l,false⟩):=p6 ⟨wwb _,by omega⟩;have e2:cz (bm 2147483647) kp.length ⟨kp.map iF++l,false⟩=(kp,⟨l,false⟩):=by
   have:=r8 (one:=bm 2147483647) (f:=λs=>[iF s]) kp l λx hx l=>p6 (oO x hx)
   rwa [tM iF kp]at this
  simp only[e1,zzy,e2];rfl
 have hk:=yyr.1 (h7.resolve_right k8);subst hk;rw[zzb k8,zzb k8];rfl
def aFf{s:bB}(h:du s=true)(l:List bz):ja ⟨eK s++l,false⟩=(s,⟨l,false⟩):=by
 obtain⟨⟨h1,_⟩,_⟩:=iA.1 h;unfold ja eX cL eK;have e1:bm 8 ⟨[iF s.kind]++gU s++l,false⟩=(s.kind,⟨gU s++l,false⟩):=p6 (by omega);simp only[e1,P6 h]
def Mz{α:Type}{one:bf->α × bf}{f:α->List bz}:∀(xs:List α) (l:List bz),(∀x∈xs,∀l,one ⟨f x++l,false⟩=(x,⟨l,false⟩))->bW one xs.length ⟨(xs.map f).flatten++l,false⟩=(xs,⟨l,false⟩)
 | [],l,_=>rfl
 | x::xs,l,h=>by
  have ih:=Mz xs l λy hy=>h y (.tail _ hy);have h1:=h x (.head _) ((xs.map f).flatten++l);rw[zzj,zzt,zze,zzg,bW,zzb (by simp),h1,ih]
def Oc{l:List bB}(h:iV l=true):jq ⟨jw l,false⟩=(((l.length:Int),l),⟨[],false⟩):=by
 obtain⟨h1,h2⟩:=jM.1 h;unfold jq dO cL jw;have e1:bm 1000 ⟨[iF (l.length:Int)]++(l.map eK).flatten,false⟩=((l.length:Int),⟨(l.map eK).flatten++[],false⟩):=by
  rw[zz4];exact p6 ⟨wwb _,by omega⟩
 have e2:=Mz l [] (one:=ja) (f:=eK) λs hs l'=>aFf (h1 s hs) l';simp only[e1,zzy,e2]
structure CC(c:dm)(k:df)(n:Nat):Prop where
 n1:1<=n
 n8:n<=8
 tables:c.tables=n
 Me:0<=c.late
 Mf:c.late<2 ^ n
 s0:64<=c.size
 s1:c.size<=65536
 queue:c.queue=k.cap
 q1:1<=k.cap
 AM:k.cap<=64
 c1:1<=c.chunk
 BO:c.chunk<=64
 batch:c.batch=k.cC
 b1:1<=k.cC
 BH:k.cC<=64
 base:c.base=k.b
 cm:c.cC=k.m
 L5:c.Am=k.j
 may:oz k.b k.m k.j
 e1:1<=c.every
 e2:c.every<=1073741824
structure bE where
 s:gZ
 k:b7
 m:fv
 dr:fW
 q:List bS
 pos:Int
 due:Int
 last:Int
 iP:Ω
 now:Int
def bE.src(c:bE):b7:={c.k with d:=c.s.k.d}
def bE.sd(c:bE)(k:b7):bE:={c with k:=k,s:={c.s with k:={c.s.k with d:=k.d}}}
def bE.snp(cf:dm)(c:bE):ju:=⟨c.src,c.m,c.dr,cf.chunk⟩
def bE.aws(c:bE)(p:ju):bE:={c.sd p.k with m:=p.m,dr:=p.d}
def bE.uL(kc:df)(c:bE):Nat:=kc.cap-c.s.L.length-c.s.out
def bE.head(c:bE):Int:=bF c.k.g.a_
def bE.en(kc:df)(c:bE)(comp:Int):Bool:=
 if c.s.k.d.off=true then false
 else if comp=0 then decide (c.pos<c.head/\c.q.length<kc.cap)
 else if comp=1 then (match c.q with
  | []=>false
  | t::_=>decide (0<c.uL kc) && !(c.m.eh.waits t.kind t.mark))
 else if comp=2 then NL c.m
 else if comp=3 then c.s.ready c.now
 else if comp=4 then decide (c.due<=c.now/\(c.m.at_<=c.last\/0<c.uL kc))
 else false
structure mK where
 err:Int
 aR:Int
 uP:Int
deriving DecidableEq
def xm(t:mK):Ξ:=[Γ t.err,Γ t.aR,Γ t.uP]
def bE.put(c:bE)(x:bV):bE:={c with s:={c.s with L:=c.s.L++[x]}}
def bE.read(c:bE):bE × mK:=match c.src.gM (c.pos+1) with
 | .error e=>(c,⟨e,0,0⟩)
 | .ok t=>({c with q:=c.q++[t],pos:=c.pos+1},⟨0,0,1⟩)
def bE.aIf(c:bE)(x:bV):bE:=if 0<x.ops.length+x.notes.length then {c.put x with last:=max c.last x.aR} else c
def bE.take(c:bE):bE × mK:=match c.q with
 | []=>(c,⟨0,0,0⟩)
 | t::q=>let r:=c.m.take t;(({c with q:=q,m:=r.1}:bE).aIf r.2.1,⟨0,0,2⟩)
def bE.draw(c:bE):Int:=c.iP.headD 0
def bE.write(kc:df)(c:bE):bE × mK:=
 let r:=c.s.step kc c.now c.draw
 ({c with s:=r.1,iP:=if r.2.1=7 then c.iP.tail else c.iP},⟨r.2.2,0,r.2.1⟩)
def nk(every now:Int):Int:=min (max now 0) 1125899906842624+every
def bE.tell(cf:dm)(c:bE):bE × mK:=
 if c.m.at_<=c.last then ({c with due:=nk cf.every c.now},⟨0,0,9⟩)
 else ({c.put ⟨c.m.at_,[],[]⟩ with due:=nk cf.every c.now,last:=c.m.at_},⟨0,0,8⟩)
def bE.snap(cf:dm)(c:bE):bE × mK:=let r:=(c.snp cf).step;(c.aws r.1,⟨r.2.2,0,r.2.1⟩)
def bE.pick(cf:dm)(kc:df)(c:bE)(comp:Int):bE × mK:=
 if comp<0\/5<=comp then (c,⟨1,0,0⟩)
 else if c.en kc comp=false then (c,⟨0,0,0⟩)
 else if comp=0 then c.read
 else if comp=1 then c.take
 else if comp=2 then c.snap cf
 else if comp=3 then c.write kc
 else c.tell cf
def bE.fault(c:bE)(f:fE):bE × Int:=
 if eY f=false then (c,1)
 else if 1024<=c.s.k.plan.length then (c,7)
 else ({c with s:={c.s with k:={c.s.k with plan:=c.s.k.plan++[f]}}},0)
def bE.tick(c:bE)(n:Int):bE × Int:=
 if n<1\/1073741824<n then (c,1) else if 1125899906842624<c.now+n then (c,7) else ({c with now:=c.now+n},0)
def bE.drawn(c:bE)(x:Int):bE × Int:=
 if x<0\/1125899906842624<x then (c,1) else if 1024<=c.iP.length then (c,7) else ({c with iP:=c.iP++[x]},0)
def bE.PO(c:bE)(x:Int):bE × Int:=
 if x<0\/1073741824<x then (c,1) else ({c with s:={c.s with k:={c.s.k with d:=c.s.k.d.PQ x}}},0)
def bE.trim(c:bE):bE × Int:=let r:=c.src.aIi c.s.k.aR;(c.sd r.1,r.2)
def bE.start(cf:dm)(k:b7)(sk:c_)(now:Int):bE:=
 ⟨⟨sk,[],0,0,0,nZ,0⟩,k,⟨cf.tables,cf.late,sk.aR,sk.reqs,mC cf.chunk⟩,rz,[],sk.aR,nk cf.every now,sk.aR,[],now⟩
def Xd(cf:dm)(d:DS)(now:Int):DS × Except Int bE:=match nr d cf.tables cf.size with
 | (d1,.error e)=>(d1,.error e)
 | (_,.ok k)=>match mj k.d cf.tables cf.size with
  | (d2,.error e)=>(d2,.error e)
  | (_,.ok sk)=>(sk.d,.ok (bE.start cf k sk now))
def bE.BX(cf:dm)(c:bE)(bh:Ω):bE:=match Xd cf (c.s.k.d.BX bh) c.now with
 | (_,.ok c')=>c'
 | (_,.error _)=>c
def bE.other(cf:dm)(c:bE)(s:bB):bE × Int:=
 if s.kind=3 then c.fault s.ft
 else if s.kind=4 then c.tick s.n
 else if s.kind=5 then c.drawn s.n
 else if s.kind=6 then c.trim
 else if s.kind=7 then c.PO s.n
 else if s.kind=8 then (c.BX cf s.bh,0)
 else (c,1)
def bE.uK(c:bE)(s:bB):bE × mK:=let r:=c.src.kj s.sg s.l;(c.sd r.1,⟨r.2.2,r.2.1,0⟩)
def bE.fL(cf:dm)(kc:df)(c:bE)(s:bB):bE × mK:=
 if c.s.k.d.off=true/\s.kind≠8 then (c,⟨8,0,0⟩)
 else if s.kind=1 then c.uK s
 else if s.kind=2 then c.pick cf kc s.n
 else ((c.other cf s).1,⟨(c.other cf s).2,0,0⟩)
structure EV where
 aR:Int
 head:Int
 low:Int
 clock:Int
 at_:Int
 pos:Int
 read:Int
 XZ:Int
 held:Int
 uL:Int
 eh:Int
 rows:Int
 ib:Int
 jb:Int
 due:Int
 down:Bool
deriving DecidableEq
def B8(l:EV):Ξ:=[Γ l.aR,Γ l.head,Γ l.low,Γ l.clock,Γ l.at_,Γ l.pos,Γ l.read,Γ l.XZ,Γ l.held,Γ l.uL,Γ l.eh,Γ l.rows,Γ l.ib,Γ l.jb,Γ l.due,.bool l.down]
def bE.look(kc:df)(c:bE):EV:=
 ⟨c.s.k.aR,c.head,cX c.k.g.a_,c.now,c.m.at_,c.pos,c.q.length,c.s.L.length,c.s.out,(c.uL kc:Nat),c.m.eh.state,c.m.eh.rows.length,c.s.ib,c.s.jb,c.due,c.s.k.d.off⟩
def Na(l:List bV):List gD:=(l.map (·.notes)).flatten
structure O7(n:Nat)(x:bV):Prop where
 w:rl n x
 nt:∀m∈x.notes,m.kind≠2->m.table<(n:Int)
structure wH(kc:df)(n:Nat)(s:gZ)(hd:List bV)(last:Int)(R:List Rq)(f:Nat):Prop where
 it:∀x∈hd++s.L,O7 n x
 NP:iL 0 (hd++s.L)
 le:tz 0 (hd++s.L)<=last
 hn:hd.length=s.n
 held:s.held=Dv hd
 room:s.L.length+s.out<=kc.cap
 out:s.out=s.n
 l0:0<=s.k.aR
 aR:s.k.aR<=last
 st:(iL s.k.aR (hd++s.L)/\kz s.k.reqs (Na (hd++s.L))=some R)\/(hd≠[]/\s.k.aR=tz 0 hd/\kz s.k.reqs (Na s.L)=some R)
 f0:0<=s.ib
 f1:s.ib<=f
def wH.inv{kc:df}{n:Nat}{s:gZ}{hd:List bV}{last:Int}{R:List Rq}{f:Nat}(h:wH kc n s hd last R f){cf:dm}(hc:CC cf kc n):I6 kc n s f:=by
 have h1:=iL.append.1 h.NP;refine⟨hc.q1,hc.AM,hc.b1,hc.BH,λx hx=>(h.it x (yyz _ hx)).w,h1.2.mono h1.1.last,h.room,h.out,?_,h.f0,h.f1⟩;have hn:=h.hn;by_cases h0:s.n=0
 ·have:hd=[]:=yyr.1 (by omega);subst this;exact .inl ⟨h0,h.held⟩
 have:=Vr (n:=n) (l:=hd) (λx hx=>(h.it x (List.mem_append_left _ hx)).w) h1.1;rw[hn,<- h.held]at this
 exact .inr ⟨by omega,this⟩
structure wS(n:Nat)(ch:Int)(w:dS):Prop where
 nn:w.n=ch
 st:0<=w.state/\w.state<=4
 rows:∀r∈w.rows,wc r
 len:w.rows.length<=64
 after:0<=w.after/\w.after<=1099511627776
 cur:0<=w.cN/\w.cN<=1099511627776
 id:0<=w.id/\w.id<=64
 live:w.state≠0->(0<=w.table/\w.table<(n:Int))/\1<=w.id/\1<=w.mark/\w.mark<=1099511627776
def wS.mC(n:Nat)(ch:Int):wS n ch (mC ch):=⟨rfl,⟨yyv _,show (0:Int)<=4 by decide⟩,λr hr=>(by cases hr),yye _,⟨yyv _,show (0:Int)<=1099511627776 by decide⟩,⟨yyv _,show (0:Int)<=1099511627776 by decide⟩,⟨yyv _,show (0:Int)<=64 by decide⟩,λh=>absurd rfl h⟩
structure Pa(n:Nat)(ch:Int)(m:fv):Prop where
 OE:m.tables=n
 PS:0<=m.at_
 Jd:m.at_<=1099511627776
 may:fV m.reqs
 rq:∀r∈m.reqs,r.table<(n:Int)/\r.at_<=m.at_
 eh:wS n ch m.eh
abbrev nJ(j:Nat):Nat:=400000*(j+1)
structure CB(cf:dm)(kc:df)(n j:Nat)(AL:List bS)(xs:List bV)(c:bE):Prop where
 dk:c.s.k.d.Ok (nJ j)
 ops:c.s.k.d.ops<=250*(j+1)
 al:AL.length<=j
 sg:gY c.k.g (nJ j)
 st1:∀C∈c.k.ts,kF C
 st2:∀C∈c.k.ts,C.length<=1000
 st3:c.k.ts.length=n
 kg:gY c.s.k.g (nJ j)
 run:runT n xs (nz n)=some c.s.k.tr
 xl:xs.length<=j
 pl:c.s.k.plan.length<=1024
 XJ:∀f∈c.s.k.plan,eY f=true
 wt:I6 kc n c.s j
 jb:0<=c.s.jb/\c.s.jb<=4503599627370496
 mx:Pa n cf.chunk c.m
 late:c.m.late=cf.late
 dr:c.dr.Ok
 ids:∀m∈c.dr.l,m.1<=c.m.reqs.length
 q:∀t∈c.q,cI t=true
 ql:c.q.length<=kc.cap
 pos:0<=c.pos/\c.pos<=1099511627776
 last:0<=c.last/\c.last<=1099511627776
 due:0<=c.due/\c.due<=4503599627370496
 now:0<=c.now/\c.now<=1125899906842624
 dl:c.iP.length<=1024
 dw:∀x∈c.iP,0<=x/\x<=1125899906842624
def bE.kS(c:bE)(RS:List PF):b7:={c.k with d:={c.s.k.d with R:=RS}}
def bE.kK(c:bE)(RK:List PF):c_:={c.s.k with d:={c.s.k.d with R:=RK}}
structure CA(cf:dm)(kc:df)(n j:Nat)(AL:List bS)(tr:Nat)(xs hd:List bV)(RS RK:List PF)(c:bE):Prop where
 off:c.s.k.d.off=false
 dR:c.s.k.d.R=RS++RK
 kv:KV n tr (nJ j) AL (c.kS RS)
 si:wK n (c.kK RK) xs none
 kw:Ba RS (c.kK RK)
 XK:wH kc n c.s hd c.last c.m.reqs j
 rqk:∀r∈c.s.k.reqs,r.table<(n:Int)/\r.at_<=c.s.k.aR
 tl:(tr:Int)<=c.s.k.aR
 la:c.last<=c.m.at_
 qp:c.pos=c.m.at_+c.q.length
 pl:c.pos<=AL.length
 qq:∀i (h:i<c.q.length),AL[c.m.at_.toNat+i]?=some c.q[i]
def sw(cf:dm)(kc:df)(n j:Nat)(AL:List bS)(c:bE):Prop:=∃tr xs hd RS RK,CB cf kc n j AL xs c/\CA cf kc n j AL tr xs hd RS RK c
section
variable {cf:dm} {kc:df} {n j:Nat} {AL:List bS} {tr:Nat} {xs hd:List bV} {RS RK:List PF} {c:bE}
def aif{xs:List bV}{t:Tr}(h:runT n xs (nz n)=some t)(hl:xs.length<=240):TX t n 4:=by
 have:=TX.run (n:=n) xs (nz n) t (244-xs.length) (by rw[show 244-xs.length+xs.length=244 by omega];exact TX.zero n 244 (by decide)) h;exact⟨⟨this.k.len,this.k.ok,Oh this.k.room (by omega),this.k.rq⟩,this.l0,this.l1,this.rq⟩
end
section
variable {cf:dm} {kc:df} {n j:Nat} {AL:List bS} {tr:Nat} {xs hd:List bV} {RS RK:List PF} {c:bE}
end
section
variable {cf:dm} {kc:df} {n j:Nat} {AL:List bS} {tr:Nat} {xs hd:List bV} {RS RK:List PF} {c:bE}
end
section
variable {cf:dm} {kc:df} {n j:Nat} {AL:List bS} {tr:Nat} {xs hd:List bV} {RS RK:List PF} {c:bE}
def sw.start(hc:CC cf kc n){k1:b7}{k2:c_}{now:Int}(vA:0<=now/\now<=1125899906842624)(hk:KV n tr (nJ j) AL k1)(hs:wK n k2 xs none)(ho:k2.d.off=false)(C3:Ba k1.d.R k2)(gn:k2.plan=[])(hg:gY k2.g (nJ j))(hd:(fN k1.d.R [] k2.d).Ok (nJ j))(dH:k2.d.ops<=250*(j+1))(m_:AL.length<=j)(iT:xs.length<=j)(hj:j<=200)
  (pJ:∀r∈k2.reqs,r.table<(n:Int)/\r.at_<=k2.aR) (h0:(tr:Int)<=k2.aR) (h1:k2.aR<=AL.length) (B:List PF):sw cf kc n j AL (bE.start cf (k1.Al B) (k2.Al k1.d.R) now):=by
 have hT:=aif hs.run (by omega);have rR:0<=k2.aR:=hT.l0;have rS:k2.aR<=1099511627776:=hT.l1;have UE:fV k2.reqs:=hT.rq;have hP:wH kc n ⟨k2.Al k1.d.R,[],0,0,0,nZ,0⟩ [] k2.aR k2.reqs j:=
  ⟨λx hx=>(by cases hx),trivial,by show (0:Int)<=k2.aR;exact rR,rfl,rfl,yye _,rfl,rR,yyv _,.inl ⟨trivial,rfl⟩,yyv _,by show (0:Int)<=(j:Int);omega⟩
 have TV:0<=nk cf.every now/\nk cf.every now<=4503599627370496:=by
  have:=hc.e1;have:=hc.e2;unfold nk;omega
 have nT:(fN k1.d.R [] k2.d).R=k1.d.R++k2.d.R:=by show k1.d.R++k2.d.R++[]=_;rw[zz4]
 refine⟨tr,xs,[],k1.d.R,k2.d.R,⟨hd,dH,m_,hk.ok.g,hk.ok.rows,hk.ok.len,by show k1.ts.length=n;rw[hk.ts,o9],hg,hs.run,iT,by show k2.plan.length<=1024;rw[gn];decide,by show ∀f∈k2.plan,_;rw[gn];simp,hP.inv hc,⟨yyv _,show (0:Int)<=4503599627370496 by decide⟩,⟨hc.tables,rR,rS,UE,pJ,wS.mC n cf.chunk⟩,rfl,Sd,λm hm=>(by cases hm),λt ht=>(by cases ht),yye _,⟨rR,rS⟩,⟨rR,rS⟩,TV,vA,yye _,λx hx=>(by cases hx)⟩,
  ⟨ho,nT,?_,hs,C3,hP,pJ,h0,yyv _,by show k2.aR=k2.aR+(0:Nat);omega,h1,λi hi=>(by cases hi)⟩⟩
 exact hk.wd (d':={fN k1.d.R [] k2.d with R:=k1.d.R}) rfl ho hd.oC hd.oD
def ni(n:Nat)(size:Int):c_:=⟨⟨[],8192,size,none⟩,eP,(nz n).1,[],0,[]⟩
def Vs{n:Nat}(n1:1<=n)(n8:n<=8){size:Int}(s0:64<=size)(s1:size<=65536):mj eP ((n:Nat):Int) size=(eP,.ok (ni n size))/\wK n (ni n size) [] none/\∀M,gY (ni n size).g M:=by
 obtain⟨k,e,hP,_⟩:=Be.first n1 n8 s0 s1;have e2:mj eP ((n:Nat):Int) size=(eP,.ok (ni n size)):=by
  unfold mj;rw[zzb (by omega)];simp only[DT (base:=8192) (by decide) (by decide) s0 s1];rw[zzy];rfl
 rw[e2]at e
 have e3:=yyl Prod.snd e;simp only at e3;cases e3;exact⟨e2,hP.s,λM=>⟨⟨by simp[ni],by show (0:Int)<=8192;decide,by show (8192:Int)<=12288;decide,s0,s1,by simp[ni]⟩,trivial,by show (0:Int)<=_;decide,λx hx=>by cases hx⟩⟩
def po(cf:dm)(n:Nat):bE:=bE.start cf (oX n cf.size) (ni n cf.size) 0
def sw.first(hc:CC cf kc n):nr eP cf.tables cf.size=(eP,.ok (oX n cf.size))/\mj eP cf.tables cf.size=(eP,.ok (ni n cf.size))/\sw cf kc n 0 [] (po cf n):=by
 obtain⟨e1,hL⟩:=aw4 hc.n1 hc.n8 hc.s0 hc.s1;obtain⟨e2,hs,hg⟩:=Vs hc.n1 hc.n8 hc.s0 hc.s1;have Ae:cf.tables=(n:Int):=hc.tables;have hk:KV n 0 (nJ 0) [] (oX n cf.size):=⟨wN.nil n,⟨[],eP,16,0,0,hL⟩,rfl,show (0:Int)<=0 by decide,(AY hc.n1 hc.n8 hc.s0 hc.s1).mono (by omega)⟩;refine⟨by rw[Ae];exact e1,by rw[Ae];exact e2,?_⟩;have C3:Ba [] (ni n cf.size):=⟨⟨λx hx=>(by cases hx),λx hx=>(by cases hx),λx hx=>(by cases hx)⟩,⟨show (8192:Int)<=8192 by decide,show (8192:Int)+4096<=12288 by decide,λs hs=>(by cases hs),λx hx=>(by cases hx)⟩⟩;exact sw.start (AL:=[]) (tr:=0) (xs:=[]) (j:=0) (k1:=oX n cf.size) (k2:=ni n cf.size) (now:=0) hc (by decide) hk hs rfl C3 rfl (hg _) (we _) (show (0:Nat)<=250*(0+1) by decide) (zzz _) (zzz _) (by decide) (λr hr=>(by cases hr)) (yyv _) (yyv _) []
end
def Nd(x:Int)(c:Κ)(h:0<=x):∀n,bI (x*256+c.toNat) (n+1)=bI x n++[c]
 | 0=>by
  have e:(x*256+(c.toNat:Int)).fdiv (2 ^ (8*0))=x*256+c.toNat:=by simp[Int.fdiv_one]
  unfold bI bI;rw[e];obtain⟨k,rfl⟩:=xxo h;have:=DB c (k*256+c.toNat) (by have:=c.toNat_lt;omega);rw[show ((k:Int)*256+(c.toNat:Int))=((k*256+c.toNat:Nat):Int) by omega,this];rfl
 | n+1=>by
  have ih:=Nd x c h n;rw[bI,ih,bI];have e:(x*256+(c.toNat:Int)).fdiv (2 ^ (8*(n+1)))=x.fdiv (2 ^ (8*n)):=by
   obtain⟨k,rfl⟩:=xxo h;have h1:=rB (k*256+c.toNat) (2 ^ (8*(n+1))) (uuk _);have h2:=rB k (2 ^ (8*n)) (uuk _)
   push_cast at h1 h2
   rw[h1,h2];have h3:(k*256+c.toNat) / 2 ^ (8*(n+1))=k / 2 ^ (8*n):=by
    rw[show 8*(n+1)=8+8*n by omega,Nat.pow_add,<- Nat.div_div_eq_div_mul];have:=c.toNat_lt;rw[show (2:Nat) ^ 8=256 from rfl,show (k*256+c.toNat) / 256=k by omega]
   have h4:=yyl (Nat.cast (R:=Int)) h3
   push_cast at h4
   exact h4
  rw[e];rfl
def w6:∀(n:Nat) (b:Φ),b.length=n->n<=8->cF b<256 ^ n/\bI (cF b:Nat) n=b
 | 0,b,h,_=>by
  rw[yyr.1 h];exact⟨by decide,rfl⟩
 | n+1,b,h,h8=>by
  have d_:b≠[]:=λe=>by rw[e]at h;cases h
  obtain⟨r,c,rfl⟩:∃r c,b=r++[c]:=⟨b.dropLast,b.getLast d_,(vve d_).symm⟩;rw[zza,yyg]at h
  obtain⟨h1,h2⟩:=w6 n r (by omega) (by omega);have hc:=c.toNat_lt;have hp:(256:Nat) ^ n<=256 ^ 7:=uug (by decide) (by omega);have e7:(256:Nat) ^ 7=72057594037927936:=rfl;have e:=Jh _ r c rfl;have e1:(cF r*256+c.toNat) % 18446744073709551616=cF r*256+c.toNat:=wwm (by omega);rw[e,e1];refine⟨by rw[Nat.pow_succ];omega,?_⟩;have:=Nd (cF r:Nat) c (wwb _) n;rw[h2]at this
  push_cast
  exact this
def aIn{n:Nat}(h:n<18446744073709551616):jP (sig n)=n:=by
 unfold jP sig;split<;>omega
def BZ:∀(i:Nat) (acc:List bz) (b:Φ) (l:List bz),iw acc i ⟨b,0⟩= .ok l->∃l',l=acc++l'/\l'.length=i/\(l'.map bO).flatten=b/\∀x∈l',fB x=true
 | 0,acc,b,l,h=>by
  rw[xi]at h
  split at h
  ·cases h
  cases h;refine⟨[],by simp,rfl,?_,λx hx=>by cases hx⟩;rw[xxa,xxs];exact (yyr.1 (by omega)).symm
 | i+1,acc,[],l,h=>by rw[B0]at h;cases h
 | i+1,acc,k::b,l,h=>by
  by_cases k1:k.toNat=1
  ·rw[sO k1]at h
   split at h
   ·cases h
   rename_i h8;obtain⟨l',rfl,h1,h2,h3⟩:=BZ i _ _ _ h;have ht:(b.take 8).length=8:=by rw[zzn];omega
   obtain⟨h4,h5⟩:=w6 8 _ ht (by decide);refine⟨_::l',(zze _ _ _),by rw[zzg,h1],?_,λx hx=>?_⟩
   ·rw[zzj,zzt,h2];have e:bO ⟨1,sig (cF (b.take 8)),⟨#[]⟩⟩=k::b.take 8:=by
     show cO 1::bI (jP (sig (cF (b.take 8)))) 8=_;rw[aIn h4,h5];have:=DB k 1 (by omega);rw[<- this];rfl
    rw[e,zzq,yyk]
   rcases zzv.1 hx with rfl|hx
   ·rfl
   exact h3 x hx
  by_cases k2:k.toNat=2
  ·rw[sP k2]at h
   split at h
   ·cases h
   rename_i g1;split at h
   ·cases h
   rename_i g2;split at h
   ·cases h
   rename_i g3;obtain⟨l',rfl,h1,h2,h3⟩:=BZ i _ _ _ h;have ht:(b.take 2).length=2:=by rw[zzn];omega
   obtain⟨_,h5⟩:=w6 2 _ ht (by decide);have hs:((b.drop 2).take (cF (b.take 2))).length=cF (b.take 2):=by rw[zzn,zz0];omega
   have hz:(⟨((b.drop 2).take (cF (b.take 2))).toArray⟩:Η).size=cF (b.take 2):=hs;refine⟨_::l',(zze _ _ _),by rw[zzg,h1],?_,λx hx=>?_⟩
   ·rw[zzj,zzt,h2];have e:bO ⟨2,0,⟨((b.drop 2).take (cF (b.take 2))).toArray⟩⟩=k::(b.take 2++(b.drop 2).take (cF (b.take 2))):=by
     show cO 2::(bI (⟨((b.drop 2).take (cF (b.take 2))).toArray⟩:Η).size 2++(b.drop 2).take (cF (b.take 2)))=_;rw[hz,h5];have:=DB k 2 (by omega);rw[<- this];rfl
    rw[e,zzq,zze,yyk,yyk]
   rcases zzv.1 hx with rfl|hx
   ·unfold fB;dsimp only;rw[zzb (by decide),zzd rfl,hz,zzr (by omega:cF (b.take 2)<=4096)];rfl
   exact h3 x hx
  rw[JF k1 k2]at h;cases h
def RO{b:Φ}{l:List bz}(h:dK b= .ok l):gl l= .ok b/\∀x∈l,fB x=true:=by
 have hb:¬b.length<2:=λhb=>by rw[JD hb]at h;cases h
 have hn:¬32767<cF (b.take 2):=λhn=>by rw[JB (by omega) hn]at h;cases h
 rw[uO (by omega) (by omega)]at h
 obtain⟨l',rfl,h1,h2,h3⟩:=BZ _ _ _ _ h;have ht:(b.take 2).length=2:=by rw[zzn];omega
 obtain⟨_,h5⟩:=w6 2 _ ht (by decide);refine⟨?_,h3⟩;unfold gl;rw[zzb (by omega),zzd (zzw.2 h3),h1,h5,h2,yyk]
def B5{n:Int}(h0:0<=n)(h1:n<1152921504606846976):bO ⟨1,n,emp⟩=cO 1::bI n 8:=by
 show cO 1::bI (n % 18446744073709551616) 8=_;rw[show n % 18446744073709551616=n by omega]
def B1:∀(l acc:List bz) (y:Φ),(∀x∈l,k7 x)->iw acc l.length ⟨(l.map bO).flatten++y,0⟩=iw (acc++l) 0 ⟨y,0⟩
 | [],acc,y,_=>by rw[xxa,xxs,zzp,zz4];rfl
 | x::l,acc,y,h=>by
  have hx:=h x (.head _);have ih:=B1 l (acc++[x]) y λz hz=>h z (.tail _ hz);rw[zze]at ih
  obtain⟨kind,n,s⟩:=x;rw[zzj,zzt,zzg,zze];rcases hx with ⟨h1,h2,h3,h4⟩|⟨h1,h2,h3⟩
  ·have h1:kind=1:=h1;have h4:s=emp:=h4;subst h1 h4;have e:=B5 h2 h3;obtain⟨m,rfl⟩:=xxo h2;have hm:m<1152921504606846976:=by have h3:(m:Int)<1152921504606846976:=h3;omega
   have hl:=eg (m:Int) 8;rw[e,zzq,sO (by decide),zzb (by rw[zza,hl];omega),xxh hl,xxk hl,AF hm,sig,zzd (by omega)];exact ih
  have h1:kind=2:=h1;have h2:n=0:=h2;have h3:s.size<=4096:=h3;subst h1 h2;have e:bO ⟨2,0,s⟩=cO 2::(bI (s.size:Nat) 2++s.data.toList):=rfl;have hl:=eg (s.size:Int) 2;have hs:s.data.toList.length=s.size:=rfl;rw[e,zzq,zze,sP (by decide),zzb (by rw[zza,hl];omega),xxh hl,xxk hl,tK (by omega),zzb (by omega),
   zzb (by rw[zza,zza,hl];omega),xxh hs,xxk hs]
  exact ih
def JE:∀(l acc:List bz) (k:Nat),(∀x∈l,k7 x)->k<(l.map bO).flatten.length->iw acc l.length ⟨((l.map bO).flatten).take k,0⟩= .error 2
 | [],acc,k,_,hk=>by simp at hk
 | x::l,acc,k,h,hk=>by
  have hx:=h x (.head _);rw[zzj,zzt,zzg]at *
  rw[zza]at hk
  by_cases hc:(bO x).length<=k
  ·obtain⟨j,rfl⟩:∃j,k=(bO x).length+j:=⟨k-(bO x).length,by omega⟩;rw[yy2];have ih:=JE l (acc++[x]) j (λz hz=>h z (.tail _ hz)) (by omega);have e:=B1 [x] acc (((l.map bO).flatten).take j) λz hz=>by rw[zz8.1 hz];exact hx
   generalize ((l.map bO).flatten).take j=y at *
   obtain⟨kind,n,s⟩:=x;rcases hx with ⟨h1,h2,h3,h4⟩|⟨h1,h2,h3⟩
   ·have h1:kind=1:=h1;have h4:s=emp:=h4;subst h1 h4;have e:=B5 h2 h3;obtain⟨m,rfl⟩:=xxo h2;have hm:m<1152921504606846976:=by have h3:(m:Int)<1152921504606846976:=h3;omega
    have hl:=eg (m:Int) 8;rw[e,zzq,sO (by decide),zzb (by rw[zza,hl];omega),xxh hl,xxk hl,AF hm,sig,zzd (by omega)];exact ih
   have h1:kind=2:=h1;have h2:n=0:=h2;have h3:s.size<=4096:=h3;subst h1 h2;have e:bO ⟨2,0,s⟩=cO 2::(bI (s.size:Nat) 2++s.data.toList):=rfl;have hl:=eg (s.size:Int) 2;have hs:s.data.toList.length=s.size:=rfl;rw[e,zzq,zze,sP (by decide),zzb (by rw[zza,hl];omega),xxh hl,xxk hl,tK (by omega),zzb (by omega),
    zzb (by rw[zza,zza,hl];omega),xxh hs,xxk hs]
   exact ih
  rw[wwg (by omega)];cases k with
  | zero=>rw[uu6,B0]
  | succ k=>
   obtain⟨kind,n,s⟩:=x;rcases hx with ⟨h1,h2,h3,h4⟩|⟨h1,h2,h3⟩
   ·have h1:kind=1:=h1;have h4:s=emp:=h4;subst h1 h4;have e:=B5 h2 h3;have hl:=eg n 8;rw[e,zzg,hl]at hc
    rw[e,vvv,sO (by decide),zzd (by rw[zzn,hl];omega)]
   have h1:kind=2:=h1;have h2:n=0:=h2;have h3:s.size<=4096:=h3;subst h1 h2;have e:bO ⟨2,0,s⟩=cO 2::(bI (s.size:Nat) 2++s.data.toList):=rfl;have hl:=eg (s.size:Int) 2;have hs:s.data.toList.length=s.size:=rfl;rw[e,zzg,zza,hl,hs]at hc
   rw[e,vvv,sP (by decide)];by_cases k2:k<2
   ·rw[zzd (by rw[zzn];omega)]
   obtain⟨j,rfl⟩:∃j,k=2+j:=⟨k-2,by omega⟩;have e2:(bI (s.size:Int) 2++s.data.toList).take (2+j)=bI (s.size:Int) 2++s.data.toList.take j:=by
    rw[show 2+j=(bI (s.size:Int) 2).length+j by rw[hl],yy2]
   rw[e2,zzb (by rw[zza,hl];omega),xxh hl,tK (by omega),zzb (by omega),zzd (by rw[zza,hl,zzn];omega)]
def RP{l:List bz}(hl:l.length<=32767)(d_:l≠[])(h:∀x∈l,k7 x){b:Φ}(hb:gl l= .ok b):dK (b.take (b.length-1))= .error 2/\∀y,dK (b++[y])= .error 3:=by
 obtain⟨e1,_⟩:=xf hl h;rw[e1]at hb
 cases hb;have h2:=eg (l.length:Int) 2;have vk:=tK (n:=l.length) (by omega);have tq:0<(l.map bO).flatten.length:=by
  cases l with
  | nil=>exact absurd rfl d_
  | cons x l=>
   rw[zzj,zzt,zza];unfold bO;split<;>rw[zzg]<;>omega
 refine⟨?_,λy=>?_⟩
 ·obtain⟨j,hj⟩:∃j,(l.map bO).flatten.length=j+1:=⟨(l.map bO).flatten.length-1,by omega⟩;have e:(bI (l.length:Int) 2++(l.map bO).flatten).take ((bI (l.length:Int) 2++(l.map bO).flatten).length-1)=bI (l.length:Int) 2++((l.map bO).flatten).take j:=by
   rw[zza,hj,show (bI (l.length:Int) 2).length+(j+1)-1=(bI (l.length:Int) 2).length+j by omega,yy2]
  have ht:(bI (l.length:Int) 2++((l.map bO).flatten).take j).take 2=bI l.length 2:=xxh h2;have hd:(bI (l.length:Int) 2++((l.map bO).flatten).take j).drop 2=((l.map bO).flatten).take j:=xxk h2;rw[e,uO (by rw[zza,h2];omega) (by rw[ht,vk];omega),ht,hd,vk,JE l [] j h (by omega)]
 rw[zze];have ht:(bI (l.length:Int) 2++((l.map bO).flatten++[y])).take 2=bI l.length 2:=xxh h2;have hd:(bI (l.length:Int) 2++((l.map bO).flatten++[y])).drop 2=(l.map bO).flatten++[y]:=xxk h2;rw[uO (by rw[zza,h2];omega) (by rw[ht,vk];omega),ht,hd,vk,B1 l [] _ h,xi,zzd (by simp)]
def Bk{α:Type}(p:bf->α × bf)(f:α->List bz)(U:α->Prop):Prop:=∀r,(∀x∈r.l,fB x=true)->(p r).2.bad=false->r.bad=false/\r.l=f (p r).1++(p r).2.l/\U (p r).1
def Bk.seq{α β:Type}{p:bf->α × bf}{q:α->bf->β × bf}{f:α->List bz}{g:α->β->List bz}{U:α->Prop}{V:α->β->Prop}(h:Bk p f U)(k:∀a,U a->Bk (q a) (g a) (V a))(hm:∀a,cZ (q a)):Bk (cL p q) (λx=>f x.1++g x.1 x.2) λx=>U x.1/\V x.1 x.2:=λr hr hb=>by
 have h1:(p r).2.bad=false:=by
  cases h2:(p r).2.bad with
  | false=>rfl
  | true=>have h3:(q (p r).1 (p r).2).2.bad=false:=hb;rw[hm _ _ h2]at h3;cases h3
 obtain⟨a1,a2,a3⟩:=h r hr h1;obtain⟨b1,b2,b3⟩:=k _ a3 (p r).2 (λx hx=>hr x (by rw[a2];exact yyz _ hx)) hb;refine⟨a1,?_,a3,b3⟩;rw[a2,b2,<- zze];rfl
def Bk.map{α β:Type}{p:bf->α × bf}{f:α->List bz}{U:α->Prop}(h:Bk p f U)(m:α->β){g:β->List bz}{V:β->Prop}(hg:∀a,U a->f a=g (m a)/\V (m a)):Bk (eX m p) g V:=λr hr hb=>by
 obtain⟨a1,a2,a3⟩:=h r hr hb;obtain⟨b1,b2⟩:=hg _ a3;exact⟨a1,by rw[a2,b1];rfl,b2⟩
def M9{k:Int}{r:bf}(hb:(iB k r).2.bad=false):∃f l,r=⟨f::l,false⟩/\f.kind=k/\iB k r=(f,⟨l,false⟩):=by
 obtain⟨l,b⟩:=r;cases b with
 | true=>rw[DM k rfl]at hb;cases hb
 | false=>
  cases l with
  | nil=>cases hb
  | cons f l=>
   unfold iB at hb ⊢;simp only at hb ⊢;split at hb
   ·rename_i hk;exact⟨f,l,rfl,hk,zzd hk⟩
   cases hb
def Ds:Bk cG (λn=>[iF n]) λ_=>True:=λr hr hb=>by
 obtain⟨f,l,rfl,hk,e⟩:=M9 (k:=1) hb;have hf:=hr f (.head _);unfold cG;rw[e];refine⟨rfl,?_,trivial⟩;obtain⟨kk,n,s⟩:=f;simp only at hk;subst hk;unfold fB at hf;rw[zzd rfl,zzo]at hf
 simp only at hf;subst hf;rfl
def ON:Bk cJ (λs=>[tF s]) λ_=>True:=λr hr hb=>by
 obtain⟨f,l,rfl,hk,e⟩:=M9 (k:=2) hb;have hf:=hr f (.head _);unfold cJ;rw[e];refine⟨rfl,?_,trivial⟩;obtain⟨kk,n,s⟩:=f;simp only at hk;subst hk;unfold fB at hf;dsimp only at hf;rw[zzb (by decide),zzd rfl,zzk,zzo]at hf
 have hn:=hf.1;subst hn;rfl
def p9(m:Int):Bk (bm m) (λn=>[iF n]) λn=>0<=n/\n<=m:=λr hr hb=>by
 unfold bm at *
 split at hb
 ·cases hb
 rename_i h;rw[zzb h];obtain⟨a1,a2,_⟩:=Ds r hr hb;exact⟨a1,a2,by omega⟩
def P3:Bk iu (λb=>[iF (jh b)]) λ_=>True:=λr hr hb=>by
 obtain⟨a1,a2,a3⟩:=p9 1 r hr hb;refine⟨a1,?_,trivial⟩;rw[a2];have e:jh (iu r).1=(bm 1 r).1:=by
  show jh (decide ((bm 1 r).1=1))=_;by_cases h:(bm 1 r).1=1
  ·rw[h];rfl
  rw[zz5 h];show (0:Int)=_;omega
 dsimp only;rw[e];rfl
def Rk:Bk fJ fI λ_=>True:=by
 rw[BQ];have b3:=P3.seq (q:=λ_=>cJ) (λ_ _=>ON) λ_=>j_;have b2:=Ds.seq (q:=λ_=>cL iu λ_=>cJ) (λ_ _=>b3) λ_=>w9.seq λ_=>j_;have b1:=(p9 8).seq (q:=λ_=>cL cG λ_=>cL iu λ_=>cJ) (λ_ _=>b2) λ_=>vQ.seq λ_=>w9.seq λ_=>j_;exact b1.map tG λa _=>⟨rfl,trivial⟩
def I_{α:Type}{p:bf->α × bf}{f:α->List bz}{U:α->Prop}(h:Bk p f U)(hm:cZ p):∀n,Bk (cz p n) (λxs=>(xs.map f).flatten) λxs=>xs.length=n
 | 0,r,_,hb=>⟨hb,rfl,rfl⟩
 | n+1,r,hr,hb=>by
  have ig:(cz p n (p r).2).2.bad=false:=hb;have h1:(p r).2.bad=false:=by
   cases h2:(p r).2.bad with
   | false=>rfl
   | true=>rw[cZ.cz hm n _ h2]at ig;cases ig
  obtain⟨a1,a2,a3⟩:=h r hr h1;obtain⟨b1,b2,b3⟩:=I_ h hm n (p r).2 (λx hx=>hr x (by rw[a2];exact yyz _ hx)) ig;refine⟨a1,?_,yyl (· + 1) b3⟩;rw[a2,b2,<- zze];rfl
def Mv{α:Type}{p:bf->α × bf}{f:α->List bz}{U:α->Prop}(h:Bk p f U)(hm:cZ p):∀n,Bk (bW p n) (λxs=>(xs.map f).flatten) λxs=>xs.length=n
 | 0,r,_,hb=>⟨hb,rfl,rfl⟩
 | n+1,r,hr,hb=>by
  cases Lq:r.bad with
  | true=>rw[cZ.many hm (n+1) r Lq]at hb;cases hb
  | false=>
   have e:bW p (n+1) r=((p r).1::(bW p n (p r).2).1,(bW p n (p r).2).2):=by rw[bW,zzb (by rw[Lq];decide)]
   rw[e]at hb ⊢
   have ig:(bW p n (p r).2).2.bad=false:=hb;have h1:(p r).2.bad=false:=by
    cases h2:(p r).2.bad with
    | false=>rfl
    | true=>rw[cZ.many hm n _ h2]at ig;cases ig
   obtain⟨a1,a2,a3⟩:=h r hr h1;obtain⟨b1,b2,b3⟩:=Mv h hm n (p r).2 (λx hx=>hr x (by rw[a2];exact yyz _ hx)) ig;refine⟨rfl,?_,yyl (· + 1) b3⟩;rw[a2,b2,<- zze];rfl
def BS{α:Type}{p:bf->α × bf}{f:α->List bz}{U:α->Prop}(h:Bk p f U)(hm:cZ p)(m:Int):Bk (dO (bm m) (cz p)) (λx=>[iF x.2.length]++(x.2.map f).flatten) λ_=>True:=by
 have:=(p9 m).seq (q:=λn=>cz p n.toNat) (λn _=>I_ h hm n.toNat) λn=>hm.cz _;refine Bk.map this id λa ha=>⟨?_,trivial⟩;show [iF a.1]++_=[iF a.2.length]++_;rw[ha.2,uul ha.1.1];rfl
def RE{α:Type}{p:bf->α × bf}{f:α->List bz}{U:α->Prop}(h:Bk p f U)(hm:cZ p)(m:Int):Bk (dO (bm m) (bW p)) (λx=>[iF x.1]++(x.2.map f).flatten) λx=>(0<=x.1/\x.1<=m)/\x.2.length=x.1.toNat:=by
 have:=(p9 m).seq (q:=λn=>bW p n.toNat) (λn _=>Mv h hm n.toNat) λn=>hm.many _;exact Bk.map this id λa ha=>⟨rfl,ha⟩
def P5(k:Int):Bk (gR k) gU λs=>s.kind=k:=by
 unfold gR;split
 ·rename_i hk;have:=(BS ON j_ 2).seq (q:=λ_=>dO (bm 16) (cz fJ)) (λ_ _=>BS Rk sL 16) λ_=>(j9 _).seq λn=>sL.cz _;refine this.map _ λa _=>⟨?_,rfl⟩;unfold gU;rw[zzd (show (tH k a).kind=1 from hk)];show _=[iF _]++a.1.2.map tF++_;rw[<- tM tF a.1.2];rfl
 split
 ·rename_i k1 hk;refine Bk.map ((p9 3).seq (q:=λ_=>bm 2147483647) (λ_ _=>p9 _) λ_=>j9 _) _ λa _=>⟨?_,rfl⟩;unfold gU;rw[zzb (show ¬(tI k a).kind=1 from k1),zzd (show (tI k a).kind=3 from hk)];rfl
 split
 ·rename_i k1 k3 hk;intro r hr hb;refine⟨hb,?_,rfl⟩;unfold gU;rw[zzb (show ¬(gA k).kind=1 from k1),zzb (show ¬(gA k).kind=3 from k3),zzd (show (gA k).kind=6 from hk)];rfl
 split
 ·rename_i k1 k3 k6 hk;refine Bk.map (BS (p9 2147483647) (j9 _) 64) _ λa _=>⟨?_,rfl⟩;unfold gU;rw[zzb (show ¬(n3 k a).kind=1 from k1),zzb (show ¬(n3 k a).kind=3 from k3),zzb (show ¬(n3 k a).kind=6 from k6),zzd (show (n3 k a).kind=8 from hk)];show _=[iF _]++a.2.map iF;rw[<- tM iF a.2];rfl
 rename_i k1 k3 k6 k8;refine Ds.map _ λa _=>⟨?_,rfl⟩;unfold gU;rw[zzb (show ¬(pU k a).kind=1 from k1),zzb (show ¬(pU k a).kind=3 from k3),zzb (show ¬(pU k a).kind=6 from k6),zzb (show ¬(pU k a).kind=8 from k8)];rfl
def aFi:Bk ja eK λ_=>True:=by
 refine Bk.map ((p9 8).seq (q:=gR) (λk _=>P5 k) BN) _ λa h=>⟨?_,trivial⟩;unfold eK;rw[show (a.2).kind=a.1 from h.2]
def awq{b:Φ}{l:List bB}(h:h_ b= .ok l):l4 l= .ok b/\iV l=true:=by
 unfold h_ at h;cases hd:dK b with
 | error e=>rw[hd]at h;cases h
 | ok f=>
  rw[hd]at h
  simp only at h;split at h
  ·rename_i hi;cases h;obtain⟨h1,h2⟩:=RO hd;obtain⟨⟨hb,hl⟩,hm⟩:=hi;have hB:=RE aFi Ej 1000;obtain⟨_,a2,a3,a4⟩:=hB ⟨f,false⟩ h2 hb;have a2:f=([iF (jq ⟨f,false⟩).1.1]++((jq ⟨f,false⟩).1.2.map eK).flatten)++(jq ⟨f,false⟩).2.l:=a2;have a3:0<=(jq ⟨f,false⟩).1.1/\_:=a3;have a4:(jq ⟨f,false⟩).1.2.length=(jq ⟨f,false⟩).1.1.toNat:=a4;rw[hl,zz4]at a2
   have e:jw (jq ⟨f,false⟩).1.2=f:=by
    unfold jw;rw[a4,uul a3.1];exact a2.symm
   refine⟨?_,hm⟩;unfold l4;rw[zzd hm,e,h1]
  cases h
def gu(s:bB):bB:=⟨s.kind,if s.kind=2\/s.kind=4\/s.kind=5\/s.kind=7 then s.n else 0,if s.kind=1 then s.sg else [],if s.kind=1 then s.l else [],if s.kind=3 then s.ft else dL,if s.kind=8 then s.bh else []⟩
def U_{p:Prop}[Decidable p]{a z:Int}:a=(if p then a else z)↔a=z\/p:=by
 by_cases h:p
 ·rw[zzd h];exact⟨λ_=>.inr h,λ_=>rfl⟩
 rw[zzb h];exact⟨.inl,λk=>k.resolve_right h⟩
def U9{p:Prop}[Decidable p]{a z:fE}:a=(if p then a else z)↔a=z\/p:=by
 by_cases h:p
 ·rw[zzd h];exact⟨λ_=>.inr h,λ_=>rfl⟩
 rw[zzb h];exact⟨.inl,λk=>k.resolve_right h⟩
def U'{α:Type}{p:Prop}[Decidable p]{a:List α}:a.length=(if p then a else []).length↔a.length=0\/p:=by
 by_cases h:p
 ·rw[zzd h];exact⟨λ_=>.inr h,λ_=>rfl⟩
 rw[zzb h];exact⟨.inl,λk=>k.resolve_right h⟩
def ME{s:bB}:du s=true↔(1<=s.kind/\s.kind<=8)/\s.n=(gu s).n/\s.ft=(gu s).ft/\s.sg.length=(gu s).sg.length/\s.l.length=(gu s).l.length/\s.bh.length=(gu s).bh.length/\(s.kind=3->eY s.ft=true/\s.ft.bh<=2147483647)/\(0<=s.n/\s.n<=1125899906842624)/\cI ⟨1,1,s.l,s.sg,0⟩=true/\(∀k∈s.bh,0<=k/\k<=2147483647)/\s.bh.length<=64:=by
 rw[iA];unfold gu;simp only[U_,U9,U'];constructor
 ·rintro ⟨⟨h1,h2,h3,h4,h5,h6,h7,h8,h9⟩,kR,oO⟩;exact⟨h1,h3,h4,h5,h6,h7,h8,h2,kR,oO,h9⟩
 rintro ⟨h1,h3,h4,h5,h6,h7,h8,h2,kR,oO,h9⟩;exact⟨⟨h1,h2,h3,h4,h5,h6,h7,h8,h9⟩,kR,oO⟩
def Wt{s:bB}(h:¬((1<=s.kind/\s.kind<=8)/\s.n=(gu s).n/\s.ft=(gu s).ft/\s.sg.length=(gu s).sg.length/\s.l.length=(gu s).l.length/\s.bh.length=(gu s).bh.length/\(s.kind=3->eY s.ft=true/\s.ft.bh<=2147483647)/\(0<=s.n/\s.n<=1125899906842624)/\cI ⟨1,1,s.l,s.sg,0⟩=true/\(∀k∈s.bh,0<=k/\k<=2147483647)/\s.bh.length<=64)):du s=false:=by
 cases hm:du s with
 | false=>rfl
 | true=>exact absurd (ME.1 hm) h
def r6(l:Ω):Bool:=An l && decide (l.length<=64)
def Dw{l:Ω}:r6 l=true↔(∀k∈l,0<=k/\k<=2147483647)/\l.length<=64:=by
 unfold r6 An;rw[zzk,zzw,zzo];simp only[zzo]
def kO(s:bB)(i:Nat):List bz:=[iF s.sg.length]++(s.sg.take i).map tF
def kP(s:bB)(i:Nat):List bz:=kO s s.sg.length++[iF s.l.length]++((s.l.take i).map fI).flatten
def J2{s:bB}{i:Nat}(h:i<s.sg.length):kO s (i+1)=kO s i++[tF s.sg[i]]:=by
 unfold kO;rw[zzh h,zzx,wwc,<- zze]
def J3{s:bB}{i:Nat}(h:i<s.l.length):kP s (i+1)=kP s i++fI s.l[i]:=by
 unfold kP;rw[zzh h,zzx,yy1,wwc,uua];simp only[zze]
def xp(s:bB):kP s s.l.length=nH s:=by
 unfold kP kO nH;simp
def Ce(s:bB)(i:Nat):(kO s i).length<=1+i:=by
 unfold kO;rw[zza,yyh,zzn];simp;omega
def xq(s:bB)(i:Nat):(kP s i).length<=2+s.sg.length+4*i:=by
 have:=Ce s s.sg.length;unfold kP;rw[zza,zza,Ke (n:=4) (λ_=>rfl),zzn];simp;omega
def jI(s:bB)(i:Nat):List bz:=[iF s.kind]++[iF s.bh.length]++(s.bh.take i).map iF
def J5{s:bB}{i:Nat}(h:i<s.bh.length):jI s (i+1)=jI s i++[iF s.bh[i]]:=by
 unfold jI;rw[zzh h,zzx,wwc,<- zze]
def J4(s:bB)(i:Nat):(jI s i).length<=2+i:=by
 unfold jI;rw[zza,zza,yyh,zzn];simp;omega
def jY(l:List bB)(i:Nat):List bz:=[iF l.length]++((l.take i).map eK).flatten
def Ci{l:List bB}{i:Nat}(h:i<l.length):jY l (i+1)=jY l i++eK l[i]:=by
 unfold jY;rw[zzh h,zzx,yy1,wwc,uua,zze]
def Cf(l:List bB):jY l l.length=jw l:=by
 unfold jY jw;rw[zz6]
def Cj{s:bB}(h:du s=true):(eK s).length<=69:=by
 obtain⟨⟨_,_,_,_,_,_,_,_,hk⟩,ht,_⟩:=iA.1 h;have hb:=iW ht;have h1:s.l.length<=16:=hb.2.2.2.1;have h2:s.sg.length<=2:=hb.2.2.2.2.1;have hc:(nH s).length<=68:=by
  have:=xq s s.l.length;rw[xp]at this;omega
 unfold eK gU;rw[zza,yyg];split
 ·omega
 split
 ·simp
 split
 ·simp
 split
 ·rw[zza,yyh,yyg];omega
 simp
def Ch{l:List bB}(h:∀s∈l,du s=true)(i:Nat):(jY l i).length<=1+69*i:=by
 induction i with
 | zero=>unfold jY;simp
 | succ i ih=>
  by_cases hi:i<l.length
  ·rw[Ci hi,zza];have:=Cj (h _ (zzi hi));omega
  have e:jY l (i+1)=jY l i:=by
   unfold jY;rw[xxb (by omega),xxb (by omega)]
  rw[e];omega
def rZ{n:Int}(h:0<=n/\n<=1125899906842624):k7 (iF n):=.inl ⟨rfl,h.1,by show n<_;omega,rfl⟩
def SF(s:bB):∀f∈nH s,f∈gV ⟨1,1,s.l,s.sg,0⟩:=by
 intro f hf;unfold nH at hf;unfold gV;simp only[yyb,zzv,yy8,vvf]at hf ⊢;rcases hf with (h|h)|(h|h)
 ·exact .inr (.inl h)
 ·exact .inr (.inr h)
 ·exact .inl (.inl (.inr (.inr (.inr h))))
 exact .inl (.inr h)
def SM{s:bB}(h:du s=true):∀f∈eK s,k7 f:=by
 obtain⟨⟨h1,h2,_,_,_,_,_,h8,h9⟩,ht,hk⟩:=iA.1 h;intro f hf;unfold eK gU at hf;rcases yyb.1 hf with hf|hf
 ·rw[zz8.1 hf];exact rZ (by omega)
 split at hf
 ·exact J7 ht f (SF s f hf)
 split at hf
 ·rename_i k3;obtain⟨a1,a2⟩:=h8 k3;unfold eY at a1;rw[zzo]at a1
  simp only[zzv,yy8,vvf]at hf;rcases hf with rfl|rfl
  ·exact rZ (by omega)
  exact rZ (by omega)
 split at hf
 ·cases hf
 split at hf
 ·rcases yyb.1 hf with hf|hf
  ·rw[zz8.1 hf];exact rZ (by omega)
  obtain⟨k,CY,rfl⟩:=zz1.1 hf;have:=hk k CY;exact rZ (by omega)
 rw[zz8.1 hf];exact rZ (by omega)
def SN{l:List bB}(h:iV l=true):∀f∈jw l,k7 f:=by
 obtain⟨h1,h2⟩:=jM.1 h;intro f hf;unfold jw at hf;rcases yyb.1 hf with hf|hf
 ·rw[zz8.1 hf];exact rZ (by omega)
 obtain⟨x,hx,hf⟩:=wwn.1 hf;obtain⟨s,hs,rfl⟩:=zz1.1 hx;exact SM (h1 s hs) f hf
def wj{l:List bB}(h:iV l=true)(hl:l.length<=400):∃b,l4 l= .ok b/\h_ b= .ok l/\0<b.length/\b.length<=1000000000/\h_ (b.take (b.length-1))= .error 2/\∀y,h_ (b++[y])= .error 3:=by
 have hn:(jw l).length<=32767:=by
  have:=Ch (jM.1 h).1 l.length;rw[Cf]at this;omega
 have jl:=SN h;obtain⟨e1,e2⟩:=xf hn jl;obtain⟨c1,c2⟩:=RP hn (by unfold jw;simp) jl e1;refine⟨_,by unfold l4;rw[zzd h];exact e1,?_,?_,?_,?_,λy=>?_⟩
 ·unfold h_;rw[e2];have hi:mr (jq ⟨jw l,false⟩):=by rw[Oc h];exact⟨⟨rfl,rfl⟩,h⟩
  simp only;rw[zzd hi,Oc h]
 ·rw[zza,eg];omega
 ·have:∀L:List bz,(∀x∈L,k7 x)->(L.map bO).flatten.length<=5000*L.length:=by
   intro L hL;induction L with
   | nil=>simp
   | cons x L ih=>
    have h1:=ih λy hy=>hL y (.tail _ hy);have h2:(bO x).length<=5000:=by
     unfold bO;rcases hL x (.head _) with ⟨a,_,_,_⟩|⟨a,_,b⟩
     ·rw[zzd a,zzg,eg];omega
     rw[zzb (by omega),zzg,zza,eg,show x.s.data.toList.length=x.s.size from rfl];omega
    rw[zzj,zzt,zza,zzg];omega
  have:=this _ jl;rw[zza,eg];omega
 ·unfold h_;rw[c1]
 unfold h_;rw[c2 y]
abbrev gG:dm:=⟨1,0,64,1,1,1,1,1,0,1⟩
abbrev fo:df:=⟨1,1,1,1,0⟩
def BP:CC gG fo 1:=⟨by decide,by decide,rfl,by decide,by decide,by decide,by decide,rfl,by decide,by decide,by decide,by decide,rfl,by decide,by decide,rfl,rfl,rfl,by decide,by decide,by decide⟩
def my:bB:=⟨4,7,[],[],dL,[]⟩
def mP:bE:=po gG 1
def mQ:bE:=(mP.fL gG fo my).1
def nC:bE:=(mQ.fL gG fo (gA 1)).1
def tB1:(mP.fL gG fo my).2=⟨0,0,0⟩:=by decide +kernel
def tB2:(mQ.fL gG fo (gA 1)).2=⟨0,1,0⟩:=by decide +kernel
def VC:((mP.look fo).aR,(mP.look fo).head,(mP.look fo).low,(mP.look fo).clock)=(0,0,1,0):=by decide +kernel
def VD:((nC.look fo).aR,(nC.look fo).head,(nC.look fo).low,(nC.look fo).clock)=(0,1,1,7):=by decide +kernel
def Nf:mQ.s.k.d.off=false:=by decide +kernel
abbrev jg(b:Nat)(x:dJ)(s:bB):Μ:=.pt b [Γ s.kind,Γ s.n,x.sv,x.cv,Γ s.ft.kind,Γ s.ft.bh,x.kv] 29
def ZX(H:aX)(v:Ε)(l:Ω)(hv:bK H 1 v l.length (l.map (Value.int .i64)))(hn:l.length<=140737488351232):SP 61 [v] [.mem H] (bj (.bool (r6 l)) [.mem H]):=by
 refine Enzz λW F w hS=>?_;apply a_e;delta aF bc ai;refine zh hv ?_;refine⟨λvs w=>∃i:Nat,vs=[Γ i]/\i<=l.length/\(∀j (hj:j<l.length),j<i->0<=l[j]/\l[j]<=2147483647)/\SL W (.mem H::F) w,
  λvs _=>match vs with|[.int _ i]=>(l.length-i).toNat|_=>0,⟨0,rfl,by omega,λj hj h=>by omega,hS⟩,?_⟩
 clear hS;rintro v3 w ⟨i,b9,hi,b5,hS⟩;cases b9;repeat first|refine Gp ?_|refine Gw λw hS=>?_|refine Gb λb w hS=>?_
 refine za (λh=>?_) (λh=>?_)
 ·have bg:i<l.length:=by omega
  have hF:∀{w:Ζ},¬(0<=l[i]/\l[i]<=2147483647)->SL W (.mem H::F) w->∃post,bj (.bool (r6 l)) [.mem H] (.bool false) post/\SL W (app post F) w:=λh hS=>⟨_,⟨by rw[show r6 l=false from xxc.2 λhk=>h ((Dw.1 hk).1 _ (zzi bg))],rfl⟩,aI hS⟩;refine yg hS Xh hv bg (u:=Γ l[i]) (by simp[bg]) ?_;repeat first|refine Gp ?_|refine Gw λw hS=>?_|refine Gb λb w hS=>?_
  refine za (λh=>hF (by omega) hS) (λh1=>?_);repeat first|refine Gp ?_|refine Gw λw hS=>?_|refine Gb λb w hS=>?_
  refine za (λh=>hF (by omega) hS) (λh2=>?_);repeat first|refine Gp ?_|refine Gw λw hS=>?_|refine Gb λb w hS=>?_
  refine⟨⟨i+1,by simp,by omega,λj hj gJ=>?_,aI hS⟩,by dsimp only;omega⟩;by_cases e:j=i
  ·subst e;omega
  exact b5 j hj (by omega)
 refine zh hv ?_;repeat first|refine Gp ?_|refine Gw λw hS=>?_|refine Gb λb w hS=>?_
 have e:r6 l=decide ((l.length:Int)<=64):=by
  rw[xxg,Dw,zzo];refine⟨λh=>by omega,λh=>⟨λk hk=>?_,by omega⟩⟩;obtain⟨j,hj,rfl⟩:=yyf hk;exact b5 j hj (by omega)
 rw[e];(exact bt hS)
def Ek{y:dJ}(h1:y.sv.oneCell'=true)(h2:y.cv.oneCell'=true)(h3:y.kv.oneCell'=true):∀u∈bT y,u.oneCell'=true:=by
 intro u hu;simp only[bT,zzv,yy8,vvf]at hu;rcases hu with rfl|rfl|rfl|rfl|rfl|rfl|rfl
 ·rfl
 ·rfl
 ·exact h1
 ·exact h2
 ·rfl
 ·rfl
 exact h3
def oo{H:aX}{y:dJ}{t:bB}(hy:dG H y t):∀u∈bT y,u.oneCell'=true:=Ek hy.sv.one hy.cv.one hy.kv.one
def qQ(H:aX)(x:dJ)(s:bB)(hx:dG H x s):SP 58 [agg (bT x)] [.mem H] (λv post=>∃y:dJ,v= .tuple #[agg (bT y),.bool (decide (1<=s.kind/\s.kind<=8))]/\dG H y (gu s)/\post=[.mem H]):=by
 refine Enzz λW F w hS=>?_;apply a_a;delta aF aW ba sJ ai aZ;refine zu hS λxb w hS=>?_;unfold bT at hS;rw[hx.kind,hx.n,hx.ft]at hS
 have nl:∀(sz:Nat),bK H sz Θ 0 []:=bK.nil H;have o1:=hx.sv.one;have o2:=hx.cv.one;have o3:=hx.kv.one;have fin:∀(n:Int) (sv cv:Ε) (ft:fE) (kv:Ε) {w:Ζ},(1<=s.kind/\s.kind<=8)->dG H ⟨s.kind,n,sv,cv,ft,kv⟩ (gu s)->SL W (.mem H::F) w ->
   ∃post,(∃y:dJ,Value.tuple #[agg [Γ s.kind,Γ n,sv,cv,Γ ft.kind,Γ ft.bh,kv],.bool true]= .tuple #[agg (bT y),.bool (decide (1<=s.kind/\s.kind<=8))]/\dG H y (gu s)/\post=[.mem H])/\SL W (app post F) w:=
  λn sv cv ft kv w h1 h2 hS=>⟨_,⟨⟨s.kind,n,sv,cv,ft,kv⟩,by rw[zzr h1];rfl,h2,rfl⟩,hS⟩
 refine Gb λzb w hS=>?_;(repeat refine Gp ?_)
 refine Gb λob w hS=>?_;repeat first|refine Gp ?_|refine Gw λw hS=>?_|refine Gb λb w hS=>?_
 refine za (λk1=>?_) (λk1=>?_)
 ·have e:gu s=⟨s.kind,0,s.sg,s.l,dL,[]⟩:=by
   unfold gu;rw[zzb (by omega),zzd k1,zzd k1,zzb (by omega),zzb (by omega)]
  repeat first|refine Gp ?_|refine Gw λw hS=>?_|refine Gb λb w hS=>?_
  refine zO (vs:=[Γ s.kind,Γ 0,x.sv,x.cv,Γ 0,Γ 0,Θ]) hS Xu rfl rfl (Ek (y:=⟨s.kind,0,x.sv,x.cv,dL,Θ⟩) o1 o2 rfl) λw hS=>?_;repeat first|refine Gp ?_|refine Gw λw hS=>?_|refine Gb λb w hS=>?_
  exact fin 0 x.sv x.cv dL Θ (by omega) (by rw[e];exact⟨rfl,rfl,rfl,hx.sv,hx.cv,nl _⟩) (aI hS)
 refine⟨λus w=>us=[.bool (decide (s.kind=2\/s.kind=4\/s.kind=5\/s.kind=7))]/\SL W (.pt ob [Γ s.kind,Γ 0,Θ,Θ,Γ 0,Γ 0,Θ] 29::.pt zb [Γ 0,Γ 0,Θ,Θ,Γ 0,Γ 0,Θ] 29::jg xb x s::.mem H::F) w,?_,?_⟩
 ·repeat first|refine Gp ?_|refine Gw λw hS=>?_|refine Gb λb w hS=>?_
  refine za (λh=>⟨by rw[zzr (by omega)],aI hS⟩) (λh2=>?_);repeat first|refine Gp ?_|refine Gw λw hS=>?_|refine Gb λb w hS=>?_
  refine za (λh=>⟨by rw[zzr (by omega)],aI hS⟩) (λh4=>?_);repeat first|refine Gp ?_|refine Gw λw hS=>?_|refine Gb λb w hS=>?_
  refine za (λh=>⟨by rw[zzr (by omega)],aI hS⟩) (λh5=>?_);repeat first|refine Gp ?_|refine Gw λw hS=>?_|refine Gb λb w hS=>?_
  exact⟨by rw[show decide (s.kind=7)=decide (s.kind=2\/s.kind=4\/s.kind=5\/s.kind=7) from yyd.2 (by omega)],aI hS⟩
 clear hS;rintro _ w ⟨hv,hS⟩;cases hv;refine za (λk2=>?_) (λk2=>?_)
 ·have e:gu s=⟨s.kind,s.n,[],[],dL,[]⟩:=by
   unfold gu;rw[zzd k2,zzb k1,zzb k1,zzb (by omega),zzb (by omega)]
  repeat first|refine Gp ?_|refine Gw λw hS=>?_|refine Gb λb w hS=>?_
  exact fin s.n Θ Θ dL Θ (by omega) (by rw[e];exact⟨rfl,rfl,rfl,nl _,nl _,nl _⟩) (aI hS)
 repeat first|refine Gp ?_|refine Gw λw hS=>?_|refine Gb λb w hS=>?_
 refine za (λk3=>?_) (λk3=>?_)
 ·have e:gu s=⟨s.kind,0,[],[],s.ft,[]⟩:=by
   unfold gu;rw[zzb k2,zzb k1,zzb k1,zzd k3,zzb (by omega)]
  repeat first|refine Gp ?_|refine Gw λw hS=>?_|refine Gb λb w hS=>?_
  refine yl (vs:=eE s.ft) hS Xh rfl (λj v h=>?_) ?_
  ·match j,h with
   | 0,h=>exact h
   | 1,h=>exact h
   | j+2,h=>simp[eE]at h
  repeat first|refine Gp ?_|refine Gw λw hS=>?_|refine Gb λb w hS=>?_
  refine Qm (cs:=[Γ s.kind,Γ 0,Θ,Θ,Γ 0,Γ 0,Θ]) (vs:=eE s.ft) hS Xu rfl (show 6<=7 by decide) (by simp[eE,Value.oneCell']) λw hS=>?_;have hS:SL W (.pt ob [Γ s.kind,Γ 0,Θ,Θ,Γ s.ft.kind,Γ s.ft.bh,Θ] 29::_) w:=hS;repeat first|refine Gp ?_|refine Gw λw hS=>?_|refine Gb λb w hS=>?_
  exact fin 0 Θ Θ s.ft Θ (by omega) (by rw[e];exact⟨rfl,rfl,rfl,nl _,nl _,nl _⟩) (aI hS)
 repeat first|refine Gp ?_|refine Gw λw hS=>?_|refine Gb λb w hS=>?_
 refine za (λk8=>?_) (λk8=>?_)
 ·have e:gu s=⟨s.kind,0,[],[],dL,s.bh⟩:=by
   unfold gu;rw[zzb k2,zzb k1,zzb k1,zzb k3,zzd k8]
  repeat first|refine Gp ?_|refine Gw λw hS=>?_|refine Gb λb w hS=>?_
  refine zO (vs:=[Γ s.kind,Γ 0,Θ,Θ,Γ 0,Γ 0,x.kv]) hS Xu rfl rfl (Ek (y:=⟨s.kind,0,Θ,Θ,dL,x.kv⟩) rfl rfl o3) λw hS=>?_;repeat first|refine Gp ?_|refine Gw λw hS=>?_|refine Gb λb w hS=>?_
  exact fin 0 Θ Θ dL x.kv (by omega) (by rw[e];exact⟨rfl,rfl,rfl,nl _,nl _,hx.kv⟩) (aI hS)
 repeat first|refine Gp ?_|refine Gw λw hS=>?_|refine Gb λb w hS=>?_
 have e:gu s=⟨s.kind,0,[],[],dL,[]⟩:=by
  unfold gu;rw[zzb k2,zzb k1,zzb k1,zzb k3,zzb k8]
 refine za (λk6=>?_) (λk6=>?_)
 ·repeat first|refine Gp ?_|refine Gw λw hS=>?_|refine Gb λb w hS=>?_
  exact fin 0 Θ Θ dL Θ (by omega) (by rw[e];exact⟨rfl,rfl,rfl,nl _,nl _,nl _⟩) (aI hS)
 repeat first|refine Gp ?_|refine Gw λw hS=>?_|refine Gb λb w hS=>?_
 exact⟨_,⟨⟨s.kind,0,Θ,Θ,dL,Θ⟩,by rw[zz5 (by omega)];rfl,by rw[e];exact⟨rfl,rfl,rfl,nl _,nl _,nl _⟩,rfl⟩,aI hS⟩
def xo(a b:fE)(w:Ζ):(Op.equal 26 (agg (eE a)) (agg (eE b))).run prog w= .ok (decide (a=b)) w:=by
 refine D8 underlying26 (by kernel_rfl) ?_;obtain⟨a1,a2⟩:=a;obtain⟨b1,b2⟩:=b;simp[eE,Op.eqFields,part,vvy (h:=zz9),Result.andThen];by_cases h0:a1=b1<;>by_cases h1:a2=b2<;>simp[*]
def qN{P:Program}{w:Ζ}{t:Ι}{xs ys:Ξ}{p:Prop}[Decidable p]{K:Ε->Prop}(h:(Op.equal t (agg xs) (agg ys)).run P w= .ok (decide p) w)(hK:K (.bool !(decide p))):ZB P t true (agg xs) (agg ys) w K:=⟨xs.toArray,ys.toArray,decide p,rfl,rfl,h,hK⟩
def Zy(H:aX)(x:dJ)(s:bB)(hx:dG H x s):SP 60 [agg (bT x)] [.mem H] (bj (.bool (cI ⟨1,1,s.l,s.sg,0⟩)) [.mem H]):=by
 refine Enzz λW F w hS=>?_;apply a_d;delta aW ai aZ;refine zu hS λxb w hS=>?_;unfold bT at hS;have o1:=hx.sv.one;have o2:=hx.cv.one;repeat first|refine Gp ?_|refine Gw λw hS=>?_|refine Gb λb w hS=>?_
 refine yQ (cells:=fj ⟨1,1,x.cv,x.sv,0⟩) (by simp[eV,jC o1,jC o2,jC (v:=Γ 1) rfl,fj]) ?_;refine Cc (yy H ⟨1,1,x.cv,x.sv,0⟩ ⟨1,1,s.l,s.sg,0⟩ ⟨rfl,rfl,rfl,hx.cv,hx.sv⟩) ?_;clear hS;(rintro v post ⟨rfl,rfl⟩ w hS;(try simp only[app]at hS);(repeat (first|refine Gp ?_|refine Gw λw hS=>?_|refine Gb λb w hS=>?_)))
 (exact bt hS)
def ZY(H:aX)(x:dJ)(s:bB)(hx:dG H x s)(hn:s.bh.length<=140737488351232):SP 27 [agg (bT x)] [.mem H] (bj (.bool (du s)) [.mem H]):=by
 refine Enzz λW F w hS=>?_;apply aX2;delta aF aW bD bc BA ai aZ;refine zu hS λxb w hS=>?_;have iS:dG H ⟨s.kind,s.n,x.sv,x.cv,s.ft,x.kv⟩ s:=⟨rfl,rfl,rfl,hx.sv,hx.cv,hx.kv⟩;unfold bT at hS;rw[hx.kind,hx.n,hx.ft]at hS
 have hF:∀{w:Ζ},du s=false->SL W (jg xb x s::.mem H::F) w->∃post,bj (.bool (du s)) [.mem H] (.bool false) post/\SL W (app post F) w:=λh hS=>⟨_,⟨by rw[h],rfl⟩,aI hS⟩;have hB:=@Wt s;repeat first|refine Gp ?_|refine Gw λw hS=>?_|refine Gb λb w hS=>?_
 refine Cc (qQ H ⟨s.kind,s.n,x.sv,x.cv,s.ft,x.kv⟩ s iS) ?_;clear hS;rintro _ post ⟨y,rfl,hy,rfl⟩ w hS;try simp only[app]at hS
 repeat first|refine Gp ?_|refine Gw λw hS=>?_|refine Gb λb w hS=>?_
 refine zO (vs:=bT y) hS Xu (iy y) rfl (oo hy) λw hS=>?_;unfold bT at hS;rw[hy.kind,hy.n,hy.ft]at hS
 repeat first|refine Gp ?_|refine Gw λw hS=>?_|refine Gb λb w hS=>?_
 refine zr (λh=>hF (hB λk=>absurd k.1 (yyj h)) (aI hS)) (λh1=>?_);have h1:=zzl h1;repeat first|refine Gp ?_|refine Gw λw hS=>?_|refine Gb λb w hS=>?_
 refine za (λh=>hF (hB λk=>h k.2.1) (aI hS)) (λh2=>?_);have h2:=ww1 h2;repeat first|refine Gp ?_|refine Gw λw hS=>?_|refine Gb λb w hS=>?_
 refine yl (vs:=eE s.ft) hS Xh rfl (λj v h=>?_) ?_
 ·match j,h with
  | 0,h=>exact h
  | 1,h=>exact h
  | j+2,h=>simp[eE]at h
 repeat first|refine Gp ?_|refine Gw λw hS=>?_|refine Gb λb w hS=>?_
 refine yl (vs:=eE (gu s).ft) hS Xh rfl (λj v h=>?_) ?_
 ·match j,h with
  | 0,h=>exact h
  | 1,h=>exact h
  | j+2,h=>simp[eE]at h
 refine qN (xo _ _ w) ?_;refine zr (λh=>hF (hB λk=>absurd k.2.2.1 (yyj h)) (aI hS)) (λh3=>?_);have h3:=zzl h3;repeat first|refine Gp ?_|refine Gw λw hS=>?_|refine Gb λb w hS=>?_
 refine zh hx.sv ?_;repeat first|refine Gp ?_|refine Gw λw hS=>?_|refine Gb λb w hS=>?_
 refine zh hy.sv ?_;repeat first|refine Gp ?_|refine Gw λw hS=>?_|refine Gb λb w hS=>?_
 refine za (λh=>hF (hB λk=>h (by rw[k.2.2.2.1])) (aI hS)) (λh4=>?_);repeat first|refine Gp ?_|refine Gw λw hS=>?_|refine Gb λb w hS=>?_
 refine zh hx.cv ?_;repeat first|refine Gp ?_|refine Gw λw hS=>?_|refine Gb λb w hS=>?_
 refine zh hy.cv ?_;repeat first|refine Gp ?_|refine Gw λw hS=>?_|refine Gb λb w hS=>?_
 refine za (λh=>hF (hB λk=>h (by rw[k.2.2.2.2.1])) (aI hS)) (λh5=>?_);repeat first|refine Gp ?_|refine Gw λw hS=>?_|refine Gb λb w hS=>?_
 refine zh hx.kv ?_;repeat first|refine Gp ?_|refine Gw λw hS=>?_|refine Gb λb w hS=>?_
 refine zh hy.kv ?_;repeat first|refine Gp ?_|refine Gw λw hS=>?_|refine Gb λb w hS=>?_
 refine za (λh=>hF (hB λk=>h (by rw[k.2.2.2.2.2.1])) (aI hS)) (λh6=>?_);have kq:∀{w:Ζ},¬(0<=s.n/\s.n<=1125899906842624)->SL W (jg xb x s::.mem H::F) w->∃post,bj (.bool (du s)) [.mem H] (.bool false) post/\SL W (app post F) w:=λh hS=>hF (hB λk=>h k.2.2.2.2.2.2.2.1) hS;have tail:(s.kind=3->eY s.ft=true/\s.ft.bh<=2147483647)->(0<=s.n/\s.n<=1125899906842624)->∀{w:Ζ},SL W (jg xb x s::.mem H::F) w->aw 60 [agg (bT ⟨s.kind,s.n,x.sv,x.cv,s.ft,x.kv⟩)] w λv78 jR=>bL v78 (zm 6 (Δ xb) λv81=>bx v81 jR λv82=>aw 61 [v82] jR λOU EA=>∃post,bj (.bool (du s)) [.mem H] OU post/\SL W (app post F) EA) (∃post,bj (.bool (du s)) [.mem H] (.bool false) post/\SL W (app post F) jR):=by
  intro g1 g2 w hS;refine Cc (Zy H ⟨s.kind,s.n,x.sv,x.cv,s.ft,x.kv⟩ s iS) ?_;clear hS;rintro _ post ⟨rfl,rfl⟩ w hS;try simp only[app]at hS
  refine Zl (λg3=>?_) (λg3=>?_)
  ·repeat first|refine Gp ?_|refine Gw λw hS=>?_|refine Gb λb w hS=>?_
   refine Cc (ZX H x.kv s.bh hx.kv hn) ?_;clear hS;rintro _ post ⟨rfl,rfl⟩ w hS;try simp only[app]at hS
   have e:du s=r6 s.bh:=by
    rw[xxg,ME,Dw];exact⟨λk=>k.2.2.2.2.2.2.2.2.2,λk=>⟨h1,h2,h3,by omega,by omega,by omega,g1,g2,g3,k.1,k.2⟩⟩
   rw[e];exact bt hS
  exact hF (hB λk=>by rw[k.2.2.2.2.2.2.2.2.1]at g3;cases g3) (aI hS)
 repeat first|refine Gp ?_|refine Gw λw hS=>?_|refine Gb λb w hS=>?_
 refine za (λk3=>?_) (λk3=>?_)
 ·repeat first|refine Gp ?_|refine Gw λw hS=>?_|refine Gb λb w hS=>?_
  refine yl (vs:=eE s.ft) hS Xh rfl (λj v h=>?_) ?_
  ·match j,h with
   | 0,h=>exact h
   | 1,h=>exact h
   | j+2,h=>simp[eE]at h
  refine Cc (Qu s.ft) ?_;clear hS;rintro _ post ⟨rfl,rfl⟩ w hS;try simp only[app]at hS
  repeat first|refine Gp ?_|refine Gw λw hS=>?_|refine Gb λb w hS=>?_
  refine zr (λh=>hF (hB λk=>by rw[(k.2.2.2.2.2.2.1 k3).1]at h;cases h) (aI hS)) (λg1=>?_);repeat first|refine Gp ?_|refine Gw λw hS=>?_|refine Gb λb w hS=>?_
  refine za (λh=>hF (hB λk=>absurd (k.2.2.2.2.2.2.1 k3).2 (by omega)) (aI hS)) (λg2=>?_);repeat first|refine Gp ?_|refine Gw λw hS=>?_|refine Gb λb w hS=>?_
  refine za (λn1=>?_) (λh=>kq (by omega) (aI hS));repeat first|refine Gp ?_|refine Gw λw hS=>?_|refine Gb λb w hS=>?_
  refine za (λn2=>?_) (λh=>kq (by omega) (aI hS));repeat first|refine Gp ?_|refine Gw λw hS=>?_|refine Gb λb w hS=>?_
  exact tail (λ_=>⟨g1,by omega⟩) (by omega) (aI hS)
 repeat first|refine Gp ?_|refine Gw λw hS=>?_|refine Gb λb w hS=>?_
 refine za (λn1=>?_) (λh=>kq (by omega) (aI hS));repeat first|refine Gp ?_|refine Gw λw hS=>?_|refine Gb λb w hS=>?_
 refine za (λn2=>?_) (λh=>kq (by omega) (aI hS));repeat first|refine Gp ?_|refine Gw λw hS=>?_|refine Gb λb w hS=>?_
 exact tail (λk=>absurd k k3) (by omega) (aI hS)
def yW(H:aX)(v:Ε)(l:List bB)(hv:eJ H v l)(hn:∀s∈l,s.bh.length<=140737488351232)(hl:l.length<=140737488351232):SP 11 [v] [.mem H] (bj (.bool (iV l)) [.mem H]):=by
 refine Enzz λW F w hS=>?_;apply aRb;delta aF bD bc ai aZ;obtain⟨xs,iT,eG,ik⟩:=hv;refine zh eG ?_;refine⟨λvs w=>∃i:Nat,vs=[Γ i]/\i<=l.length/\(∀j (hj:j<l.length),j<i->du l[j]=true)/\SL W (.mem H::F) w,
  λvs _=>match vs with|[.int _ i]=>(l.length-i).toNat|_=>0,⟨0,rfl,by omega,λj hj h=>by omega,hS⟩,?_⟩
 clear hS;rintro v3 w ⟨i,b9,hi,b5,hS⟩;cases b9;repeat first|refine Gp ?_|refine Gw λw hS=>?_|refine Gb λb w hS=>?_
 refine za (λh=>?_) (λh=>?_)
 ·have bg:i<l.length:=by omega
  have gm:i<xs.length:=by omega
  have hx:=ik i bg gm;refine zy hS Xh iy eG (x:=xs[i]) (by simp[gm]) bg ?_;repeat first|refine Gp ?_|refine Gw λw hS=>?_|refine Gb λb w hS=>?_
  refine zO (vs:=bT xs[i]) hS Xu (iy _) rfl (oo hx) λw hS=>?_;refine zH hS Xh (iy _) ?_;refine Cc (ZY H xs[i] l[i] hx (hn _ (zzi bg))) ?_;clear hS;(rintro v post ⟨rfl,rfl⟩ w hS;(try simp only[app]at hS);(repeat (first|refine Gp ?_|refine Gw λw hS=>?_|refine Gb λb w hS=>?_)))
  refine zr (λh=>?_) (λh=>?_)
  ·exact⟨_,⟨by rw[show iV l=false from xxc.2 λhk=>by rw[(jM.1 hk).1 _ (zzi bg)]at h;cases h],rfl⟩,aI hS⟩
  repeat first|refine Gp ?_|refine Gw λw hS=>?_|refine Gb λb w hS=>?_
  refine⟨⟨i+1,by simp,by omega,λj hj gJ=>?_,aI hS⟩,by dsimp only;omega⟩;by_cases e:j=i
  ·subst e;exact h
  exact b5 j hj (by omega)
 refine zh eG ?_;repeat first|refine Gp ?_|refine Gw λw hS=>?_|refine Gb λb w hS=>?_
 have e:iV l=decide ((l.length:Int)<=1000):=by
  rw[xxg,jM,zzo];refine⟨λh=>by omega,λh=>⟨λs hs=>?_,by omega⟩⟩;obtain⟨j,hj,rfl⟩:=yyf hs;exact b5 j hj (by omega)
 rw[e];(exact bt hS)
