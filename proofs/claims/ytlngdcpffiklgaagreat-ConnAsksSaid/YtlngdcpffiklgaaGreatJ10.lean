/- Part. -/
import Derived.Test.YtlngdcpffiklgaaGreatJ9
import Derived.Lib.Overlaps
import Derived.Test.YtlngdcpffiklgaaGreatQVcW
namespace Go.Proofs.YtlngdcpffiklgaaGreat
set_option linter.all false
set_option maxRecDepth 100000
open Go.RowKit Go.Proofs.Tryz
def wwc:=@underlying55
def tte:=@List.all_eq_false
def uu9:=@underlying326
def xxd:=@run_equalIn_int
def wwj:=@List.length_eq_zero_iff
def vv9:=@List.flatMap_append
def ttf:=@List.nodup_append
def uuv:=@List.length_eraseIdx
def uu1:=@Nat.mul_le_mul_left
def l_(b:Nat)(cs:Ξ)(t:Ι):zC:=λh=>h=bw.one b (.cells cs.toArray t (0,0))
section
variable {W w:Ζ} {l l':Β} {P:Program}
def l_.o8{b:Nat}{cs:Ξ}{t:Ι}(h:SL W l w)(m:Has (.ob (l_ b cs t)) l):w.heap[b]?=some (.cells cs.toArray t (0,0)):=by
 obtain⟨k,s,x⟩:=h.out;obtain⟨h1,e,le⟩:=m.heap s;have e:h1=bw.one b (.cells cs.toArray t (0,0)):=e;subst e;exact x b _ (le b _ (by simp[bw.one]))
def l_.cell{b o:Nat}{cs:Ξ}{t:Ι}{v:Ε}(h:SL W l w)(m:Has (.ob (l_ b cs t)) l)(hv:cs[o]?=some v):w.cell? ⟨b,o,none⟩=some v:=by
 simp[World.cell?,l_.o8 h m,hv]
def cGe{z cells:Ξ}{ps:List (Nat × Nat × Ε)}{e:Ι}{n:Nat}{K:Ε->Ζ->Prop}(hS:SL W l w)(hc:ib z ps=some cells)
  (h:∀b w',SL W (.ob (l_ b cells e)::l) w'->K (.slice (some ⟨b,0,none⟩) n n) w'):zm z ps e n w K:=⟨cells,hc,h _ _ (hS.alloc (c:=.ob (l_ w.heap.size cells e)) rfl)⟩
def qd{dT sT ty elem tt:Ι}{b o Ih SE m KW Xq sz:Nat}{a:Addr}{cs cd:Ξ}{K:Ε->Ζ->Prop}(hS:SL W l w)(hu:P.underlying dT=some (.slice elem))(hs:(P.info? elem).map (·.size)=some sz)
  (hm:Nat.min KW Ih=m) (hl:cs.length=m*sz) (iD:∀j v,cs[j]?=some v->w.cell? (a.add j)=some v) (u:gj (.pt b cd tt) (.pt b (cd.take o++cs++cd.drop (o+cs.length)) tt) l l') (ho:o+cs.length<=cd.length) (h1:∀v∈cs,v.oneCell'=true)
  (h:∀v w',SL W l' w'->K v w'):zS P (Builtin.copy_ #[dT,sT] ty #[.slice (some ⟨b,o,none⟩) Ih SE,.slice (some a) KW Xq]) w K:=by
 have rG:=vvc (P:=P) w a cs iD;have iu:∀j,j<cs.length->∃v,cd[o+j]?=some v:=λj hj=>⟨_,zzc (by omega)⟩;have gg:=run_storeCells_cells (P:=P) b o cs 0 w (λj hj=>by obtain⟨v,hv⟩:=iu j hj;rw[xxp,hS.cell u.has hv];rfl) (λj hj=>by obtain⟨v,hv⟩:=iu j hj;rw[xxp];exact hS.frozen u.has hv) h1;simp only[xxp]at gg;have hr:(Builtin.copy_ #[dT,sT] ty #[.slice (some ⟨b,o,none⟩) Ih SE,.slice (some a) KW Xq]).run P w= .ok (goInt m) (w.setCells b o cs):=by
  cases hq:P.info? elem with
  | none=>simp[hq]at hs
  | some i=>
   have hi:i.size=sz:=by simpa [hq] using hs
   simp[Builtin.copy_,zzy hu,Builtin.lenOf,Builtin.firstCells,sizeOf,typeInfo,hq,hi,hm,<- hl,rG,gg]
 exact⟨_,_,hr,h _ _ (SL.Z' hS u ho)⟩
def cGf{ty t e:Ι}{a:Option Addr}{n c:Nat}{K:Ε->Prop}(ht:P.underlying t=some (.slice e))(h:K (Γ c)):eS P (Builtin.cap_ #[t] ty #[.slice a n c]) w K:=
 ⟨_,by simp[Builtin.cap_,zzy ht,goInt],h⟩
end
def Tryz.cza:(prog.info? 54).map (λi=>(i.zero.map (λz=>z.cells.toList),i.size,i.bytes))=some (some [Γ 0,.string ⟨#[]⟩],2,24):=by kernel_rfl
def Tryz.cVf:(prog.info? 54).map (λi=>i.zero)=some (some (.agg #[Γ 0,.string ⟨#[]⟩])):=by kernel_rfl
def cHx(w:Ζ):(sizeOf 54).run prog w= .ok 2 w:=by kernel_rfl
def cDq{W w:Ζ}{l:Β}{vb b o m vc lb cb:Nat}{cv cs:Ξ}{K:Ε->Ζ->Prop}(hS:SL W l w)(h1:Has (.ob (l_ vb cv 54)) l)(h2:Has (.pt b cs 54) l)(dO:vb≠b)(iP:cs.length≠0)
  (h:K (.bool false) w):Qo prog 362 [.slice (some ⟨vb,0,none⟩) m vc,.slice (some ⟨b,o,none⟩) lb cb] w K:=by
 have e1:=l_.o8 hS h1;obtain⟨f,hf,e2⟩:=hS.o8 h2;have hsa:w.shape? vb=some (54,cv.length):=by simp[World.shape?,e1]
 have hsb:w.shape? b=some (54,cs.length):=by simp[World.shape?,e2]
 have hz:∀x:Addr,x.block=vb->w.frozen? x=false:=λx hx=>by simp only[World.frozen?,hx,e1];simp
 have hr:=Go.Lib.run_overlaps_apart (P:=prog) w 55 4 54 wwc 2 cHx ⟨vb,0,none⟩ ⟨b,o,none⟩ m vc lb cb dO 54 54 cv.length cs.length hsa hsb iP (hz _ rfl) (hz _ rfl);refine⟨.bool false,w,?_,h⟩;have:=run_callFunc_extern func362 (by kernel_rfl) (by kernel_rfl) (by kernel_rfl) (e:=Extern.SlicesOverlaps.overlaps #[55,55] #[4]) (by kernel_rfl) #[.slice (some ⟨vb,0,none⟩) m vc,.slice (some ⟨b,o,none⟩) lb cb] w;rw[this,hr];rfl
def l_.ne{W w:Ζ}{l:Β}{b vb:Nat}{cs cv:Ξ}{t t':Ι}(h:SL W (.pt b cs t::.ob (l_ vb cv t')::l) w):vb≠b:=by
 rintro rfl;obtain⟨k,⟨h1,h2,s,⟨f,_,rfl⟩,h3,h4,s',e,r⟩,m⟩:=h.out;have e:h3=bw.one vb (.cells cv.toArray t' (0,0)):=e;subst e;rcases s vb with ⟨a,_⟩|⟨a,_⟩
 ·simp[bw.one]at a
 rcases s' vb with ⟨c,_⟩|⟨_,c⟩
 ·simp[bw.one]at c
 rw[a]at c;simp[bw.one]at c
def KM(A E x:Ξ):(A++E).take A.length++x++(A++E).drop (A.length+x.length)=A++x++E.drop x.length:=by
 rw[ww3,<- vve,ww2]
def cEq(A E D:Ξ)(k:Nat)(hk:k<=E.length):(A++E).take (A.length+k)++D++(A++E).drop (A.length+k+D.length)=A++(E.take k++D++E.drop (k+D.length)):=by
 rw[xx0,vvk,<- vve (l:=A++E),ww2];simp
def qK(v:Ε)(n i vb:Nat)(cells x:Ξ)(hi:i<=n)(hx:x.length=2)(gl:∀v∈cells,v.oneCell'=true)(mU:∀v∈x,v.oneCell'=true)(hn:n<=1000000):
  SP 317 [v,Γ (i:Int),.slice (some ⟨vb,0,none⟩) 1 1] [.ob (bF v 54 2 n cells),.ob (l_ vb x 54)] (λu post=>post=[.ob (bF u 54 2 (n+1) (cells.take (i*2)++x++cells.drop (i*2)))]):=by
 refine Enzz λW F w hS=>?_;apply cQo;delta aI cP ai cR;have iD:∀{l:Β} {w:Ζ},SL W l w->Has (.ob (l_ vb x 54)) l->∀j u,x[j]?=some u->w.cell? ((⟨vb,0,none⟩:Addr).add j)=some u:=λh m j u e=>by
  rw[yye,yya];exact l_.cell h m e
 have gV:i=n->zx 2 24 [Γ 0,.string ⟨#[]⟩] 54 v (.slice (some ⟨vb,0,none⟩) 1 1) w λu w=>∃post,(post=[.ob (bF u 54 2 (n+1) (cells.take (i*2)++x++cells.drop (i*2)))])/\SL W (app post F) w:=λe=>by
  subst e;obtain⟨_,_,_,hlen,_⟩:=bF.at hS Xh;refine zJ (n:=i) (m:=1) hS Xr ⟨rfl,hx,iD hS Xh⟩ (by omega) rfl mU (by omega) (by omega) ?_;clear hS;intro u w hS;rw[zz7 (by omega),yy7 (by omega),zz2];exact⟨_,rfl,aR hS⟩
 rcases bF.open hS with ⟨⟨a,rfl⟩,rfl,rfl,_⟩|⟨b,cap,rest,rfl,ph,hlen,jD,TR⟩
 ·refine⟨a,0,0,i,0,0,rfl,rfl,rfl,⟨_,rfl⟩,hi,zzi _,zzi _,?_⟩;refine z7 ?_;refine Gp ?_;refine Χ ?_;refine z7 ?_;refine Gp ?_;exact za (λh=>gV (by omega)) (λh=>by omega)
 refine⟨_,n,cap,i,n,cap,rfl,rfl,rfl,⟨_,rfl⟩,hi,ph,zzi _,?_⟩;refine z7 ?_;refine Gp ?_;refine Χ ?_;refine z7 ?_;refine Gp ?_;refine za (λh=>gV (by omega)) (λdO=>?_);clear gV hS;have hS:=TR;clear TR;have kf:i<n:=by omega
 have hvb:=l_.ne hS;refine Gp ?_;refine cGf wwc ?_;refine Gp ?_;obtain⟨A,hA⟩:∃A,A=cells.take (i*2):=⟨_,rfl⟩;obtain⟨D,hD⟩:∃D,D=cells.drop (i*2):=⟨_,rfl⟩;have FA:cells=A++D:=by rw[hA,hD,yyk]
 have sC:A.length=i*2:=by rw[hA,zzg];omega
 have Fq:D.length=(n-i)*2:=by rw[hD,zzs];omega
 have TL:∀v∈D,v.oneCell'=true:=λv hv=>gl v (by rw[FA];exact xxm _ hv);rw[<- hA,<- hD];have f_:(prog.info? 54).map (·.size)=some 2:=by kernel_rfl
 refine za (λhg=>?_) (λhg=>?_)
 ·
  have T8:cap=n:=by omega
  subst T8;refine⟨_,cap,cap,0,i,cap,rfl,rfl,⟨_,rfl⟩,rfl,by omega,by omega,by omega,?_⟩;rw[zzb (show ¬cap=0 by omega)];simp only[yyi,yye,uuk,xxp,xxo];refine Gp ?_;rw[show (((cap+1:Nat):Int)-(i:Int))=((cap+1-i:Nat):Int) by omega];cases hq:prog.info? 54 with
  | none=>rw[hq]at f_;cases f_
  | some ti=>
   have hI:=Tryz.cza;rw[hq]at hI
   have hZ:=Tryz.cVf;rw[hq]at hZ
   simp only[yyi,ttd,wwl]at hI hZ;obtain⟨_,h2,h3⟩:=hI;have hold:(Builtin.firstCells ti.size i (.slice (some ⟨b,0,none⟩) i cap)).run prog w.drew= .ok A.toArray w.drew:=by
    have hl:=vvc (P:=prog) w.drew ⟨b,0,none⟩ A λj u hj=>by
     rw[yye,yya];refine hS.drew.cell .hd ?_;rw[FA,zzk,zzm (zzf.1 hj).1];exact hj
    rw[sC]at hl
    rw[h2];simp[Builtin.firstCells,hl]
   have px:Builtin.nextslicecap (i+(cap+1-i)) cap*ti.bytes<=281474976710656:=growslice_fits (by omega) (by rw[h3];omega);have xW:=Go.Lib.run_append_grow_zeros (P:=prog) w 55 3 55 54 ti _ .i64 .i64 wwc yyd hq hZ (some ⟨b,0,none⟩) i cap A hold (cap+1-i) (by omega) (by omega) (by omega) (by omega) (by rw[h3];omega) px;refine⟨_,_,xW,?_⟩;generalize T9:grownCap w (i+(cap+1-i)) cap 54=cp;have xG:cap+1<=cp:=by
    have:=grownCap_ge w (i+(cap+1-i)) cap 54;omega
   have hz:∀k,Builtin.zeroCells (Value.cells (.agg #[Γ 0,.string ⟨#[]⟩])) k=(cQ [Γ 0,.string ⟨#[]⟩] k).toArray:=λk=>by
    rw[<- Lw (Value.cells (.agg #[Γ 0,.string ⟨#[]⟩])) [Γ 0,.string ⟨#[]⟩] rfl k,Array.toArray_toList]
   rw[hz,hz];obtain⟨E,hE⟩:∃E:Ξ,E=cQ [Γ 0,.string ⟨#[]⟩] (cap+1-i)++cQ [Γ 0,.string ⟨#[]⟩] (cp-(i+(cap+1-i))):=⟨_,rfl⟩;have hEl:E.length=(cp-i)*2:=by rw[hE,zza,l7,l7];simp;omega
   have e2:A.toArray++(cQ [Γ 0,.string ⟨#[]⟩] (cap+1-i)).toArray++(cQ [Γ 0,.string ⟨#[]⟩] (cp-(i+(cap+1-i)))).toArray=(A++E).toArray:=by rw[hE];simp
   rw[e2];have hS:=SL.new (cs:=A++E) (t:=54) hS.drew;clear xW hold hz e2 hE;have FW:w.heap.size=w.drew.heap.size:=rfl;rw[FW];generalize w.drew.heap.size=nb at *
   generalize (w.drew.alloc (.cells (A++E).toArray 54))=w at *
   have ei:i+(cap+1-i)=cap+1:=by omega
   rw[ei];refine⟨_,cap+1,cp,i,cap+1,cp,rfl,rfl,rfl,⟨_,rfl⟩,by omega,xG,zzi _,?_⟩;rw[zzb (show ¬cp=i by omega)];simp only[yyi,yye,yya];have e3:=KM A E x;rw[sC]at e3
   refine qd (tt:=54) (l':=.pt nb (A++x++E.drop x.length) 54::.pt b (cells++rest) 54::.ob (l_ vb x 54)::F) hS wwc f_ (m:=1) (sz:=2) (xxw (by omega)) (by omega) (iD hS Xh) (by rw[e3];exact gj.hd) (by rw[zza];omega) mU ?_;clear hS e3;intro _ w hS;refine Gn λw hS=>?_;refine⟨_,cap+1,cp,i+1,cap+1,cp,rfl,rfl,rfl,⟨_,rfl⟩,by omega,xG,zzi _,?_⟩;rw[zzb (show ¬cp=i+1 by omega)];refine⟨_,cap,cap,i,cap,cap,rfl,rfl,rfl,⟨_,rfl⟩,by omega,zzi _,zzi _,?_⟩;rw[zzb (show ¬cap=i by omega)];simp only[yyi,yye,yya];have e4:=KM (A++x) (E.drop x.length) D;have e5:(A++x).length=(i+1)*2:=by rw[zza];omega
   rw[e5]at e4
   have TM:(E.drop x.length).length=E.length-2:=by rw[zzs,hx]
   refine qd (tt:=54) (l':=.pt nb (A++x++D++(E.drop x.length).drop D.length) 54::.pt b (cells++rest) 54::.ob (l_ vb x 54)::F) hS wwc f_ (m:=cap-i) (sz:=2) (xxw (by omega)) Fq (λj u hj=>?_) (by rw[e4];exact gj.hd) (by rw[zza,e5,TM];omega) TL ?_
   ·rw[yye];refine hS.cell (.tl .hd) ?_;rw[FA,zzk,yyb (by omega),sC,wwh,zzm (zzf.1 hj).1];exact hj
   clear hS e4;intro _ w hS;refine⟨_,rfl,SL.cD (bF.mk (sz:=2) (n:=cap+1) (cap:=cp) (cells:=A++x++D) (rest:=(E.drop x.length).drop D.length) xG ?_ ?_ hS) Xi⟩
   ·rw[zza,e5];omega
   rw[zzs,TM];omega

 have Bm:n+1<=cap:=by omega
 clear hg;have uV:2<=rest.length:=by rw[jD];omega
 refine Gp ?_;refine⟨_,n,cap,0,n+1,cap,rfl,rfl,⟨_,rfl⟩,rfl,by omega,by omega,by omega,?_⟩;rw[zzb (show ¬cap=0 by omega)];simp only[yyi,yye,uuk,xxp,xxo];refine Gp ?_;refine⟨_,n+1,cap,i+1,n+1,cap,rfl,rfl,rfl,⟨_,rfl⟩,by omega,by omega,by omega,?_⟩;rw[zzb (show ¬cap=i+1 by omega)];simp only[yyi,yye,yya];refine cDq hS Xh Xh hvb (by rw[zza];omega) ?_;refine⟨_,rfl,?_⟩;refine zq ?_;refine Gn λw hS=>?_;refine⟨_,n+1,cap,i+1,n+1,cap,rfl,rfl,rfl,⟨_,rfl⟩,by omega,by omega,by omega,?_⟩;rw[zzb (show ¬cap=i+1 by omega)];refine⟨_,n+1,cap,i,n+1,cap,rfl,rfl,rfl,⟨_,rfl⟩,by omega,by omega,by omega,?_⟩;rw[zzb (show ¬cap=i by omega)];simp only[yyi,yye,yya];obtain⟨E,hE⟩:∃E,E=D++rest:=⟨_,rfl⟩;have hEl:E.length=(cap-i)*2:=by rw[hE,zza];omega
 have hAE:cells++rest=A++E:=by rw[FA,hE,zzk]
 rw[hAE]at hS
 have e3:=cEq A E D 2 (by omega);rw[sC,show i*2+2=(i+1)*2 by omega]at e3
 refine qd (tt:=54) (l':=.pt b (A++(E.take 2++D++E.drop (2+D.length))) 54::.ob (l_ vb x 54)::F) hS wwc f_ (m:=n-i) (sz:=2) (by simp only[Nat.min_def];split<;>omega) Fq (λj u hj=>?_) (by rw[e3];exact gj.hd) (by rw[zza];omega) TL ?_
 ·rw[yye];refine hS.cell .hd ?_;rw[yyb (by omega),sC,wwh,hE,zzm (zzf.1 hj).1];exact hj
 clear hS e3;intro _ w hS;refine⟨_,n+1,cap,i,n+1,cap,rfl,rfl,rfl,⟨_,rfl⟩,by omega,by omega,by omega,?_⟩;rw[zzb (show ¬cap=i by omega)];simp only[yyi,yye,yya];have e4:=KM A (E.take 2++D++E.drop (2+D.length)) x;rw[sC,hx]at e4
 have F1:(E.take 2).length=2:=by rw[zzg];omega
 have e5:(E.take 2++D++E.drop (2+D.length)).drop 2=D++E.drop (2+D.length):=by
  rw[zzk];have:=ww2 (l₁:=E.take 2) (l₂:=D++E.drop (2+D.length))
  rwa [F1]at this
 rw[e5]at e4
 refine qd (tt:=54) (l':=.pt b (A++x++(D++E.drop (2+D.length))) 54::.ob (l_ vb x 54)::F) hS wwc f_ (m:=1) (sz:=2) (xxw (by omega)) (by omega) (iD hS Xh) (by rw[hx,e4];exact gj.hd) (by rw[zza,zza,zza,F1,zzs];omega) mU ?_;clear hS e4 e5;intro _ w hS;rw[<- zzk (A++x)]at hS
 refine⟨_,rfl,SL.cD (bF.mk (sz:=2) (n:=n+1) (cap:=cap) (cells:=A++x++D) (rest:=E.drop (2+D.length)) Bm ?_ ?_ hS) Xi⟩
 ·rw[zza,zza];omega
 rw[zzs];omega
abbrev cH(b:Nat):Ε:=Δ b
def cHc{W w:Ζ}{l:Β}{α:Type}{enc:α->Ξ}{v u:Ε}{t:Ι}{sz j i:Nat}{k:IntKind}{xs:List α}{y:α}{K:Ζ->Prop}(hS:SL W (.ob (bF v t sz xs.length (xs.map enc).flatten)::l) w)(hn:∀x,(enc x).length=sz)
  (hj:j<xs.length) (hi:i<sz) (hy:(enc xs[j]).set i u=enc y) (h1:u.oneCell'=true) (hK:∀w',SL W (.ob (bF v t sz (xs.set j y).length ((xs.set j y).map enc).flatten)::l) w'->K w'):zk sz v (.int k (j:Int)) λp=>zl i p λq=>eE q u w K:=by
 rcases bF.open hS with ⟨_,h0,_⟩|⟨b,cap,rest,rfl,hc,hlen,jD,hS⟩
 ·omega
 have dj:j*sz+i<xs.length*sz:=by
  have:(j+1)*sz<=xs.length*sz:=yyv _ hj;rw[yyu]at this;omega
 refine zG hj (yN ?_);rw[yya];refine Zu hS .hd (zzc (by rw[zza];omega)) h1 λw' hS=>hK w' ?_;rw[ww1 _ _ (by omega),ID hn xs j i hj y u hi hy]at hS
 have hl:(xs.set j y).length=xs.length:=yyh;rw[hl];refine bF.mk hc ?_ jD hS;rw[mN hn,hl]
def cHh{W w:Ζ}{l:Β}{v:Ε}{t:Ι}{sz n k:Nat}{kk:IntKind}{cells:Ξ}{K:Ε->Prop}(h:SL W l w)(mm:Has (.ob (bF v t sz n cells)) l)(hk:k<=n)
  (hK:∀A c,n-k<=c->(∀m c' w' l',m<=n-k->SL W l' w'->Has (.ob (bF v t sz n cells)) l'->kL w' sz (.slice A m c') m ((cells.drop (k*sz)).take (m*sz)))->K (.slice A (n-k) c)):eT sz v (some (.int kk (k:Int))) none none K:=by
 obtain⟨a,cap,rfl,hl,_⟩:=bF.at h mm;have ph:n<=cap:=by
  obtain⟨l2,r⟩:=mm.rem;rcases bF.open (h.perm r.perm) with ⟨⟨a',e⟩,rfl,rfl,_⟩|⟨b,ES,rest,e,hc,_⟩
  ·cases e;omega
  cases e;exact hc
 refine⟨a,n,cap,k,n,cap,rfl,rfl,rfl,⟨kk,rfl⟩,hk,ph,zzi _,hK _ _ (by omega) λm c' w' l' hm h' m'=>?_⟩;obtain⟨a',ES,e,_,hx⟩:=bF.at h' m';cases e;have po:((cells.drop (k*sz)).take (m*sz)).length=m*sz:=by
  have:(k+m)*sz<=n*sz:=yyv _ (by omega);rw[yyu]at this
  rw[zzg,zzs,hl];omega
 rcases yy6 m with rfl|Uy
 ·have:(cells.drop (k*sz)).take (0*sz)=[]:=by simp
  rw[this];generalize (if cap=k then a else a.map (·.add (k*sz)))=A;cases A with
  | none=>exact⟨rfl,rfl⟩
  | some p=>exact⟨rfl,by simp,λj v e=>by simp at e⟩
 obtain⟨b,rfl,h3⟩:=hx 0 (by omega);rw[zzb (show ¬cap=k by omega)];refine⟨rfl,po,λj v e=>?_⟩;show w'.cell? (((⟨b,0,none⟩:Addr).add (k*sz)).add j)=some v;rw[yye,yye];refine h3 _ v ?_;rw[uue]at e
 split at e
 ·rw[www]at e
  rw[yya];exact e
 cases e
abbrev fJ(v:Ε)(l:List Row):Μ:=.ob (bF v 54 2 l.length (l.map eD).flatten)
def Tn{z v:Ε}(h:v.oneCell'=true):ib (cQ [z] 1) [(0,1,v)]=some [v]:=by simp[ib,cQ,BH h]
def vz(r:Row):∀v∈eD r,v.oneCell'=true:=by simp[eD,Value.oneCell']
def E9(k:Int)(v:Η):eD ⟨k,v⟩=[Γ k,.string v]:=rfl
def eF(x:Nat × List Row):zC:=jT λv:Ε=>zH True [.pt x.1 [v] 289,fJ v x.2]
def eF.iff{W w:Ζ}{b:Nat}{C:List Row}{l:Β}:SL W (.ob (eF (b,C))::l) w↔∃v,SL W (.pt b [v] 289::fJ v C::l) w:=by
 unfold eF;simp only[SL.ex,SL.fact,zzv,zzq,uuu]
def eF.put{W w:Ζ}{b:Nat}{C:List Row}{v:Ε}{l F:Β}(hS:SL W l w)(p:gE [.pt b [v] 289,fJ v C] l F):SL W (.ob (eF (b,C))::F) w:=eF.iff.2 ⟨v,hS.pick p⟩
def qO(a:Int):SP 298 [Γ a] [] (cE (.bool false) []):=by
 refine Enzz λW F w hS=>?_;apply ai3;refine Gp ?_;rw[show decide (a≠a)=false by simp];(exact cF hS)
def pO(a b:Int):Int:=if a<b then -1 else if b<a then 1 else 0
def Sq{a b:Int}:pO a b<0↔a<b:=by unfold pO;split<;>(try split)<;>omega
def a_9{a b:Int}:pO a b=0↔a=b:=by unfold pO;split<;>(try split)<;>omega
def bwb(a b:Int):SP 238 [Γ a,Γ b] [] (cE (Γ (pO a b)) []):=by
 refine Enzz λW F w hS=>?_;apply ai1;delta aI ai;refine Cg (qO a) λw hS=>?_;refine Cg (qO b) λw hS=>?_;refine za (λh=>?_) (λh=>?_)
 ·rw[show pO a b = -1 by unfold pO;rw[zzd h]];(exact cF hS)
 refine cA (λh2=>?_) (λh2=>?_)
 ·rw[show pO a b=1 by unfold pO;rw[zzb h,zzd h2]];(exact cF hS)
 rw[show pO a b=0 by unfold pO;rw[zzb h,zzb h2]];(exact cF hS)
def YG(r:Row)(key:Int):SP 328 [agg (eD r),Γ key] [] (cE (Γ (pO r.key key)) []):=by
 obtain⟨rk,rv⟩:=r;refine Enzz λW F w hS=>?_;apply cQ0;delta a_;refine zu hS λxb w hS=>?_;rw[E9]at hS
 refine Gp ?_;refine Cg (bwb rk key) λw hS=>?_;(exact cF hS)
def cGw{i j:Nat}{K:Ε->Prop}(h:i+j<=1000000000)(k:K (Γ (((i+j) / 2:Nat):Int))):zc .add (Γ i) (Γ j) λa=>zP .u64 a λb=>zc .shr b (.int .u64 1) λc=>zP .i64 c K:=by
 refine ZH (by omega) (zW ?_);rw[vva,show ((i+j:Nat):Int) % 18446744073709551616=((i+j:Nat):Int) by omega];have e:((i+j:Nat):Int).fdiv (2 ^ (min (1:Int).toNat IntKind.u64.bits))=(((i+j) / 2:Nat):Int):=by
  rw[show (min (1:Int).toNat IntKind.u64.bits)=1 by decide,vv0 _ (by decide)];omega
 refine⟨_,by simp only[jJ];rw[zzb (by decide)],?_⟩;rw[e];exact yA (by omega) k
def aWw(v:Ε)(C:List Row)(key:Int)(hs:gi C)(hn:C.length<=1000000):
  SP 327 [v,Γ key,.func (.func 328) #[] #[]] [fJ v C] (λu post=>∃i,AtR C key i/\u= .tuple #[Γ (i:Nat),.bool (lS C key i)]/\post=[fJ v C]):=by
 refine Enzz λW F w hS=>?_;apply cQz;delta aI ai;refine zz hS Xh ?_;refine⟨λus w=>∃i j:Nat,us=[Γ i,Γ j]/\i<=j/\j<=C.length/\(∀k (h:k<C.length),k<i->C[k].key<key)/\(∀h:j<C.length,key<=C[j].key)/\SL W (fJ v C::F) w,
  λus _=>match us with|[.int _ i,.int _ j]=>(j-i).toNat|_=>0,⟨0,C.length,rfl,by omega,by omega,λk h hk=>by omega,λh=>by omega,hS⟩,?_⟩
 clear hS;rintro v9 v10 w ⟨i,j,cT,sJ,hj,Uv,FM,hS⟩;cases cT;refine D7 ?_;refine za (λh=>?_) (λh=>?_)
 ·refine cGw (by omega) ?_;generalize hm:(i+j) / 2=m;have nY:i<=m/\m<j:=by omega
  clear hm;have mR:m<C.length:=by omega
  refine zU hS Xh jt (x:=C[m]) (by simp[mR]) mR ?_;refine⟨328,#[],#[],rfl,by decide,?_⟩;refine Cg (YG C[m] key) λw hS=>?_;refine za (λh1=>?_) (λh1=>?_)
  ·have h1:=Sq.1 h1;refine Gp ?_;refine⟨⟨m+1,j,rfl,by omega,hj,λk hk hkm=>?_,FM,hS⟩,by dsimp only;omega⟩;rcases xx6 k m with h2|h2
   ·have:=xxt.1 hs k m hk mR h2;omega
   obtain rfl:k=m:=by omega
   exact h1
  have h1:¬C[m].key<key:=λh2=>h1 (Sq.2 h2);exact⟨⟨i,m,rfl,nY.1,by omega,Uv,λ_=>by omega,hS⟩,by dsimp only;omega⟩
 obtain rfl:i=j:=by omega
 have hA:AtR C key i:=⟨hj,Uv,FM⟩;refine cA (λh1=>?_) (λh1=>?_)
 ·have cG:i<C.length:=by omega
  refine zU hS Xh jt (x:=C[i]) (by simp[cG]) cG ?_;refine⟨328,#[],#[],rfl,by decide,?_⟩;refine Cg (YG C[i] key) λw hS=>?_;have e:decide (pO C[i].key key=0)=lS C key i:=by
   unfold lS;rw[yyj,a_9];exact⟨λh=>⟨cG,h⟩,λ⟨_,h⟩=>h⟩
  rw[e];exact⟨_,⟨i,hA,rfl,rfl⟩,hS⟩
 have e:lS C key i=false:=zz3 λ⟨h,_⟩=>h1 (by omega);rw[<- e];exact⟨_,⟨i,hA,rfl,rfl⟩,hS⟩
def qF(v:Ε)(n i:Nat)(cells:Ξ)(hi:i<n)(gl:∀v∈cells,v.oneCell'=true)(hb:n*24<=140737488355328)(hn:n<=140737488355328):
  SP 331 [v,Γ (i:Int),Γ ((i+1:Nat):Int)] [.ob (bF v 54 2 n cells)] (λu post=>post=[.ob (bF u 54 2 (n-1) (cells.take (i*2)++cells.drop ((i+1)*2)))]):=
 Im (z:=[Γ 0,.string ⟨#[]⟩]) (zv:=.agg #[Γ 0,.string ⟨#[]⟩]) (λv0 v1 v2 w R h=>cQ4 v0 v1 v2 w R h) wwc (λw=>by kernel_rfl) rfl rfl (by simp[Value.oneCell']) v n i cells hi gl hb hn
def Sm(v:Ε)(C:List Row)(hn:C.length<=1000000):SP 127 [v] [fJ v C] (λu post=>post=[fJ u C,fJ v C]):=
 a_6 (λv0 w R h=>Lm v0 w R h) rfl (by decide) (sW vz C) (mN jt C) (by omega) (by omega)
section
variable (b:Nat) (C:List Row) (key:Int) (hs:gi C) (hn:C.length<=1000000)
include hs hn
def yQ(v:Ε):SP 276 [cH b,Γ key] [.pt b [v] 289,fJ v C] (λu post=>∃i,AtR C key i/\u= .tuple #[Γ (i:Nat),.bool (lS C key i)]/\post=[.pt b [v] 289,fJ v C]):=by
 refine Enzz λW F w hS=>?_;apply cPp;delta bW;refine Gp ?_;refine Cc (aWw v C key hs hn) ?_;clear hS;rintro u post ⟨i,hA,rfl,rfl⟩ w hS;(try simp only[app]at hS);refine Gp ?_
 exact⟨_,⟨i,hA,rfl,rfl⟩,aR hS⟩
def YO(val:Η):SP 264 [cH b,Γ key,.string val] [.ob (eF (b,C))] (λu post=>(∃q,u= .bool q)/\post=[.ob (eF (b,gX C ⟨key,val⟩))]):=by
 refine Enzz λW F w hS=>?_;apply cPc;delta bW c_ cz ai cR;obtain⟨v,hS⟩:=eF.iff.1 hS;refine Cc (yQ b C key hs hn v) ?_;clear hS;rintro u post ⟨i,hA,rfl,rfl⟩ w hS;(try simp only[app]at hS);refine Gp ?_
 have hi:=hA.ins val;have hle:=hA.le;cases hk:lS C key i with
 | true=>
  rw[hk,zzd rfl]at hi
  obtain⟨cG,_⟩:=zzp hk;refine zq ?_;refine Gp ?_;refine cHc (enc:=eD) (y:=⟨key,val⟩) (Has.front hS (l2:=.pt b [v] 289::F) Xr) jt cG (by decide) ?_ rfl λw hS=>?_
  ·obtain⟨_,e⟩:=zzp hk;rw[<- e];rfl
  rw[hi];exact⟨_,⟨⟨_,rfl⟩,rfl⟩,eF.iff.2 ⟨v,aR hS⟩⟩
 | false=>
  rw[hk,zzb (by decide)]at hi
  refine zp ?_;(repeat refine Gp ?_)
  refine cGe hS (Tl (cs:=eD ⟨key,val⟩) rfl rfl) λvb w hS=>?_;refine Cc (qK v C.length i vb (C.map eD).flatten (eD ⟨key,val⟩) hle rfl (sW vz _) (vz _) hn) ?_;clear hS;rintro u post rfl w hS;try simp only[app]at hS
  have h1:=bF.one hS;refine Gn λw hS=>?_;have e:((C.map eD).flatten.take (i*2)++eD ⟨key,val⟩++(C.map eD).flatten.drop (i*2))=((gX C ⟨key,val⟩).map eD).flatten:=by
   rw[hi,uz jt,vE jt];simp
  have hl:C.length+1=(gX C ⟨key,val⟩).length:=by rw[hi];simp;omega
  rw[e,hl]at hS
  exact⟨_,⟨⟨_,rfl⟩,rfl⟩,eF.iff.2 ⟨u,aR hS⟩⟩
def cxw:SP 284 [cH b,Γ key] [.ob (eF (b,C))] (λu post=>(∃q,u= .bool q)/\post=[.ob (eF (b,ka C key))]):=by
 refine Enzz λW F w hS=>?_;apply cPy;delta bW c_ ai;obtain⟨v,hS⟩:=eF.iff.1 hS;refine Cc (yQ b C key hs hn v) ?_;clear hS;rintro u post ⟨i,hA,rfl,rfl⟩ w hS;(try simp only[app]at hS);refine Gp ?_
 have hi:=hA.del hs;have hle:=hA.le;cases hk:lS C key i with
 | true=>
  rw[hk,zzd rfl]at hi
  obtain⟨cG,_⟩:=zzp hk;refine zq ?_;refine Gp ?_;refine Cc (qF v C.length i (C.map eD).flatten cG (sW vz _) (by omega) (by omega)) ?_;clear hS;rintro u post rfl w hS;try simp only[app]at hS
  have h1:=bF.one hS;refine Gn λw hS=>?_;have e:((C.map eD).flatten.take (i*2)++(C.map eD).flatten.drop ((i+1)*2))=((ka C key).map eD).flatten:=by
   rw[hi,uz jt,vE jt];simp
  have hl:C.length-1=(ka C key).length:=by rw[hi,zza,zzg,zzs];omega
  rw[e,hl]at hS
  exact⟨_,⟨⟨_,rfl⟩,rfl⟩,eF.iff.2 ⟨u,aR hS⟩⟩
 | false=>
  rw[hk,zzb (by decide)]at hi
  refine zp ?_;rw[hi];exact⟨_,⟨⟨_,rfl⟩,rfl⟩,eF.iff.2 ⟨v,aR hS⟩⟩
def Ty(o:Option Η):Ε:=.tuple #[.string (o.getD emp),.bool o.isSome]
def cx1:SP 206 [cH b,Γ key] [.ob (eF (b,C))] (cE (Ty (fe C key)) [.ob (eF (b,C))]):=by
 refine Enzz λW F w hS=>?_;apply cNz;delta bW a_ cP;obtain⟨v,hS⟩:=eF.iff.1 hS;refine Cc (yQ b C key hs hn v) ?_;clear hS;rintro u post ⟨i,hA,rfl,rfl⟩ w hS;(try simp only[app]at hS);refine Gp ?_
 obtain⟨Db,uM⟩:=hA.get hs;cases hk:lS C key i with
 | true=>
  obtain⟨cG,e⟩:=zzp hk;refine zp ?_;refine Gp ?_;refine yh hS Xh jt (x:=C[i]) (by simp[cG]) cG (i:=1) rfl ?_;rw[uM cG e];exact⟨_,⟨rfl,rfl⟩,eF.iff.2 ⟨v,aR hS⟩⟩
 | false=>
  refine zq ?_;have e:fe C key=none:=by
   rw[hk]at Db
   cases hg:fe C key with
   | none=>rfl
   | some x=>rw[hg]at Db;cases Db
  rw[e];exact⟨_,⟨rfl,rfl⟩,eF.iff.2 ⟨v,aR hS⟩⟩
def qI(n:Int)(h1 : -1000000<=n)(h2:n<=9000000000000000000):SP 292 [cH b,Γ key,Γ n] [.ob (eF (b,C))] (λu post=>post=[fJ u (oA C key n),.ob (eF (b,C))]):=by
 refine Enzz λW F w hS=>?_;apply cP7;delta bW ai;obtain⟨v,hS⟩:=eF.iff.1 hS;refine Cc (yQ b C key hs hn v) ?_;clear hS;rintro u post ⟨i,hA,rfl,rfl⟩ w hS;(try simp only[app]at hS);refine Gp ?_
 have ha:=hA.after hs n;have hle:=hA.le;obtain⟨k,hk⟩:∃k,k=if lS C key i=true then i+1 else i:=⟨_,rfl⟩
 rw[<- hk]at ha
 have mv:k<=C.length:=by
  rw[hk];split
  ·rename_i h;obtain⟨cG,_⟩:=zzp h;omega
  exact hle
 refine⟨λus w=>us=[Γ (k:Nat)]/\SL W (.pt b [v] 289::fJ v C::F) w,?_,?_⟩
 ·cases hq:lS C key i with
  | true=>
   refine zq ?_;refine Gp ?_;exact⟨by rw[hk,hq,zzd rfl],aR hS⟩
  | false=>
   refine zp ?_;exact⟨by rw[hk,hq,zzb (by decide)],aR hS⟩
 clear hS;rintro v7 w ⟨cT,hS⟩;cases cT;refine Gp ?_;refine cHh hS Xh mv λA c hc iD=>?_;refine Gp ?_;obtain⟨m,hm⟩:∃m,m=min n.toNat (C.length-k):=⟨_,rfl⟩;have em:max (min n ((C.length-k:Nat):Int)) 0=((m:Nat):Int):=by omega
 rw[em];refine⟨A,C.length-k,c,0,m,c,rfl,rfl,⟨_,rfl⟩,rfl,zz4 _,by omega,zzi _,?_⟩;have eA:(if c=0 then A else A.map (·.add (0*2)))=A:=by
  split
  ·rfl
  cases A<;>simp[Addr.add]
 rw[eA,xxo,xxo];have ecs:((C.map eD).flatten.drop (k*2)).take (m*2)=((oA C key n).map eD).flatten:=by
  rw[vE jt,uz jt,ha];congr 2;rcases xx6 n.toNat (C.length-k) with h|h
  ·congr 1;omega
  rw[zz7 (by rw[zzs];omega),zz7 (by rw[zzs];omega)]
 have el:m=(oA C key n).length:=by rw[ha,zzg,zzs];omega
 have JP:∀v0 w R,Cm 2 24 [Γ 0,.string ⟨#[]⟩] 54 54 v0 w R->aF 127 [v0] w R:=λv0 w R h=>Lm v0 w R h;refine JP _ _ _ (H0 (sz:=2) (gn:=24) (z:=[Γ 0,.string ⟨#[]⟩]) (t:=54) (ts:=54) (n:=m) (cs:=((oA C key n).map eD).flatten) ⟨A,c,rfl⟩ (λw' d h=>?_) (by rw[mN jt,<- el]) rfl (by decide) (sW vz _) (by omega) (by omega) hS λu w hS=>?_)
 ·rw[<- ecs];exact iD m c w' _ (by omega) h (.tl Xh)
 rw[el]at hS
 exact⟨_,rfl,SL.cD (eF.put hS Xp) Xi⟩
end
def cxu(b:Nat)(C:List Row)(hn:C.length<=1000000):SP 122 [cH b] [.ob (eF (b,C))] (λu post=>post=[fJ u C,.ob (eF (b,C))]):=by
 refine Enzz λW F w hS=>?_;apply cLo;delta bW;obtain⟨v,hS⟩:=eF.iff.1 hS;refine Gp ?_;refine Cc (Sm v C hn) ?_;clear hS;rintro u post rfl w hS;try simp only[app]at hS
 exact⟨_,rfl,SL.cD (eF.put hS Xp) Xi⟩
def YM(b:Nat)(C:List Row):SP 186 [cH b] [.ob (eF (b,C))] (cE (Γ (C.length:Nat)) [.ob (eF (b,C))]):=by
 refine Enzz λW F w hS=>?_;apply cNd;delta bW;obtain⟨v,hS⟩:=eF.iff.1 hS;refine Gp ?_;refine zz hS Xh ?_;exact⟨_,⟨rfl,rfl⟩,eF.iff.2 ⟨v,aR hS⟩⟩
def YN(H:bw)(v:Ε)(l:List Row)(hv:de H 2 v l.length (l.map eD).flatten)(hl:l.length<=100000):SP 190 [v] [.mem H] (λu post=>∃b,u=cH b/\post=[.ob (eF (b,oq [] l)),.mem H]):=by
 refine Enzz λW F w hS=>?_;apply cNi;delta aI a_ ai cR bR;refine Gp ?_;refine zu hS λxb w hS=>?_;have hS:SL W (fJ Θ []::_) _:=bF.nil hS;have hS:SL W (.ob (eF (xb,[]))::.mem H::F) _:=eF.iff.2 ⟨_,aR hS⟩;refine zo hv ?_;refine⟨λus w=>∃i:Nat,us=[Γ i]/\i<=l.length/\SL W (.ob (eF (xb,oq [] (l.take i)))::.mem H::F) w,λus _=>match us with|[.int _ i]=>(l.length-i).toNat|_=>0,⟨0,rfl,by omega,hS⟩,?_⟩;clear hS;rintro v10 w ⟨i,cT,hi,hS⟩;cases cT;refine cA (λh=>?_) (λh=>?_)
 ·have cG:i<l.length:=by omega
  have hp:=cEo cG [];have gg:=W7 (l.take i) (C:=[]) List.Pairwise.nil;have Bf:=W6 (l.take i) [];rw[zzg,yym]at Bf
  refine zF hS Xh jt hv (x:=l[i]) (by simp[cG]) cG ?_;generalize l[i]=r at *
  have hP:(oq [] (l.take i)).length<=1000000:=by omega
  clear Bf;generalize oq [] (l.take i)=P at *
  obtain⟨rk,rv⟩:=r;rw[E9];refine Gm λb w hS=>?_;refine Cc (YO xb P rk gg hP rv) ?_;clear hS;rintro u post ⟨⟨q,rfl⟩,rfl⟩ w hS;(try simp only[app]at hS);refine Gp ?_
  rw[<- hp]at hS
  exact⟨⟨i+1,rfl,by omega,aR hS⟩,by dsimp only;omega⟩
 obtain rfl:i=l.length:=by omega
 rw[zz0]at hS
 exact⟨_,⟨xb,rfl,rfl⟩,aR hS⟩
def sx(p:Nat × List Row):Ξ:=[cH p.1]
def vy(p:Nat × List Row):(sx p).length=1:=rfl
abbrev jG(v:Ε)(L:List (Nat × List Row)):Μ:=.ob (bF v 194 1 L.length (L.map sx).flatten)
def dV(sp:Nat)(ts:List (List Row)):zC:=jT λx:Ε × List (Nat × List Row)=>zH (x.2.map Prod.snd=ts) [.pt sp [x.1] 197,jG x.1 x.2,.ob (zh eF x.2)]
def dV.iff{W w:Ζ}{sp:Nat}{ts:List (List Row)}{l:Β}:SL W (.ob (dV sp ts)::l) w↔∃v L,L.map Prod.snd=ts/\SL W (.pt sp [v] 197::jG v L::.ob (zh eF L)::l) w:=by
 unfold dV;simp only[SL.ex,SL.fact,zzv,zzq];exact⟨λ⟨x,h1,h2⟩=>⟨x.1,x.2,h1,h2⟩,λ⟨v,L,h1,h2⟩=>⟨(v,L),h1,h2⟩⟩
def dV.put{W w:Ζ}{sp:Nat}{v:Ε}{L:List (Nat × List Row)}{ts:List (List Row)}{l F:Β}(hL:L.map Prod.snd=ts)(hS:SL W l w)(p:gE [.pt sp [v] 197,jG v L,.ob (zh eF L)] l F):SL W (.ob (dV sp ts)::F) w:=dV.iff.2 ⟨v,L,hL,hS.pick p⟩
def ub{L:List (Nat × List Row)}{ts:List (List Row)}(h:L.map Prod.snd=ts):L.length=ts.length:=by rw[<- h,zzn]
def Ak{L:List (Nat × List Row)}{ts:List (List Row)}(h:L.map Prod.snd=ts){i:Nat}(hi:i<ts.length):∃b,L[i]?=some (b,ts[i]):=by
 subst h;have hl:i<L.length:=by simpa using hi
 exact⟨L[i].1,by rw[zzc hl];simp⟩
def XV{L:List (Nat × List Row)}{ts:List (List Row)}(h:L.map Prod.snd=ts)(i:Nat)(b:Nat)(C:List Row):(L.set i (b,C)).map Prod.snd=ts.set i C:=by
 rw[<- h,vvr]
def one_set{L:List (Nat × List Row)}{i b:Nat}{C D:List Row}(h:L[i]?=some (b,C)):(L.set i (b,D)).map sx=L.map sx:=by
 refine xxy (by simp) λj h1 h2=>?_;simp only[zzn,yyh]at h1;rw[xx7,xx7,xxr];split
 ·rename_i e;subst e;rw[zzc h1]at h
  rw[wwe h];rfl
 rfl
def jG.set{W w:Ζ}{v:Ε}{L:List (Nat × List Row)}{i b:Nat}{C D:List Row}{l:Β}(h:L[i]?=some (b,C))(hS:SL W (jG v L::l) w):SL W (jG v (L.set i (b,D))::l) w:=by
 have e:=one_set (D:=D) h;have e2:(L.set i (b,D)).length=L.length:=yyh;unfold jG;rw[e,e2];exact hS
section
variable (sp:Nat) (ts:List (List Row))
def yt:SP 99 [cH sp] [.ob (dV sp ts)] (cE (Γ (ts.length:Nat)) [.ob (dV sp ts)]):=by
 refine Enzz λW F w hS=>?_;apply cUn;delta bW;obtain⟨v,L,hL,hS⟩:=dV.iff.1 hS;rw[<- ub hL];refine Gp ?_;refine zz hS Xh ?_;exact⟨_,⟨rfl,rfl⟩,SL.cD (dV.put hL hS Xp) Xi⟩
def yu(t:Int):SP 121 [cH sp,Γ t] [.ob (dV sp ts)] (cE (.bool (decide (0<=t/\t<ts.length))) [.ob (dV sp ts)]):=by
 refine Enzz λW F w hS=>?_;apply cLn;delta aI bW cz ai;obtain⟨v,L,hL,hS⟩:=dV.iff.1 hS;have hl:=ub hL;refine cA (λh=>?_) (λh=>?_)
 ·refine Gp ?_;refine zz hS Xh ?_;refine Gp ?_;rw[show decide (0<=t/\t<(ts.length:Int))=decide (t<(L.length:Int)) from yyj.2 ⟨λh=>by omega,λh=>by omega⟩];exact⟨_,⟨rfl,rfl⟩,SL.cD (dV.put hL hS Xp) Xi⟩
 rw[show decide (0<=t/\t<(ts.length:Int))=false from zz3 λh=>by omega];exact⟨_,⟨rfl,rfl⟩,SL.cD (dV.put hL hS Xp) Xi⟩
def Ed{ts:List (List Row)}{t:Int}(h:¬(0<=t/\t<ts.length)):gv ts t=[]:=by
 unfold gv;split
 ·rfl
 rw[yyt (by omega)];rfl
def Yv(t:Int)(hn:∀C∈ts,C.length<=1000000):SP 52 [cH sp,Γ t] [.ob (dV sp ts)] (λu post=>post=[fJ u (gv ts t),.ob (dV sp ts)]):=by
 refine Enzz λW F w hS=>?_;apply cTb;delta bW a_ cP bR;refine Cg (yu sp ts t) λw hS=>?_;refine zy (λh=>?_) (λh=>?_)
 ·rw[Ed (yy2 h)];exact⟨_,rfl,bF.nil hS⟩
 obtain⟨h0,h1⟩:=zzp h;obtain⟨t,rfl⟩:∃n:Nat,t=n:=⟨t.toNat,by omega⟩;have ht:t<ts.length:=by omega
 rw[ow ts t ht];obtain⟨v,L,hL,hS⟩:=dV.iff.1 hS;obtain⟨b,hb⟩:=Ak hL ht;have hl:=ub hL;refine Gp ?_;refine yh hS Xh vy hb (by omega) (i:=0) rfl ?_;have hS:=zh.take (SL.cD hS (t:=.ob (zh eF L)::.pt sp [v] 197::jG v L::F) Xi) hb;refine Cc (cxu b ts[t] (hn _ (zzh ht))) ?_;clear hS;rintro u post rfl w hS;try simp only[app]at hS
 have hS:=zh.back (SL.cD hS (t:=.ob (eF (b,ts[t]))::.ob (zh eF (L.eraseIdx t))::fJ u ts[t]::.pt sp [v] 197::jG v L::F) Xi) hb;exact⟨_,rfl,SL.cD (dV.put hL hS Xp) Xi⟩
def q9(t key n:Int)(hn:∀C∈ts,C.length<=1000000)(hs:∀C∈ts,gi C)(h1 : -1000000<=n)(h2:n<=9000000000000000000):SP 226 [cH sp,Γ t,Γ key,Γ n] [.ob (dV sp ts)] (λu post=>post=[fJ u (oA (gv ts t) key n),.ob (dV sp ts)]):=by
 refine Enzz λW F w hS=>?_;apply cOl;delta bW a_ cP bR;refine Cg (yu sp ts t) λw hS=>?_;refine zy (λh=>?_) (λh=>?_)
 ·rw[Ed (yy2 h),show oA [] key n=[] by simp[oA]];exact⟨_,rfl,bF.nil hS⟩
 obtain⟨h0,h3⟩:=zzp h;obtain⟨t,rfl⟩:∃n:Nat,t=n:=⟨t.toNat,by omega⟩;have ht:t<ts.length:=by omega
 rw[ow ts t ht];obtain⟨v,L,hL,hS⟩:=dV.iff.1 hS;obtain⟨b,hb⟩:=Ak hL ht;have hl:=ub hL;refine Gp ?_;refine yh hS Xh vy hb (by omega) (i:=0) rfl ?_;have hS:=zh.take (SL.cD hS (t:=.ob (zh eF L)::.pt sp [v] 197::jG v L::F) Xi) hb;refine Cc (qI b ts[t] key (hs _ (zzh ht)) (hn _ (zzh ht)) n h1 h2) ?_;clear hS;rintro u post rfl w hS;try simp only[app]at hS
 have hS:=zh.back (SL.cD hS (t:=.ob (eF (b,ts[t]))::.ob (zh eF (L.eraseIdx t))::fJ u (oA ts[t] key n)::.pt sp [v] 197::jG v L::F) Xi) hb;exact⟨_,rfl,SL.cD (dV.put hL hS Xp) Xi⟩
end
def Ce(n:Int)(u:Ε)(post:Β):Prop:=if n<1\/8<n then u= .tuple #[.pointer none,Γ 1]/\post=[] else ∃sp,u= .tuple #[cH sp,Γ 0]/\post=[.ob (dV sp (List.replicate n.toNat []))]
def cJr(n:Int):SP 133 [Γ n] [] (Ce n):=by
 refine Enzz λW F w hS=>?_;apply cLy;delta aI c_ aW b_ ai cY bR;refine Gp ?_;refine za (λh=>⟨[],by unfold Ce;rw[zzd (.inl h)];exact⟨rfl,rfl⟩,hS⟩) (λh1=>?_);refine Gp ?_;refine za (λh=>⟨[],by unfold Ce;rw[zzd (.inr h)];exact⟨rfl,rfl⟩,hS⟩) (λh2=>?_);refine Gp ?_;refine zu hS λsp w hS=>?_;have hS:SL W (jG Θ []::_) _:=bF.nil hS;have hS:SL W (.ob (zh eF [])::_) _:=zh.nil hS;refine⟨λus w=>∃(i:Nat) (v:Ε) (L:List (Nat × List Row)),us=[Γ i]/\i<=n/\L.map Prod.snd=List.replicate i []/\SL W (.pt sp [v] 197::jG v L::.ob (zh eF L)::F) w,
  λus _=>match us with|[.int _ i]=>(n-i).toNat|_=>0,⟨0,_,[],rfl,by omega,rfl,aR hS⟩,?_⟩
 clear hS;rintro An w ⟨i,v,L,cT,hi,hL,hS⟩;cases cT;have hl:=ub hL;rw[xxn]at hl
 refine cA (λh=>?_) (λh=>?_)
 ·refine Gn λw hS=>?_;have hS:=SL.Ke hS;refine Cc (YN bw.emp Θ [] (de.nil _ _) (by decide)) ?_;clear hS;rintro u post ⟨xb,rfl,rfl⟩ w hS;refine Gm λb w hS=>?_;refine yz (n:=L.length) (xs:=L) (y:=(xb,[])) (enc:=sx) hS Xr Xh vy (λx=>by simp[sx,Value.oneCell']) rfl (by omega) (by omega) λu w hS=>?_;have rL:=bF.one hS;refine Gn λw hS=>?_;refine⟨⟨i+1,u,L++[(xb,[])],rfl,by omega,by rw[zzt,hL,List.replicate_succ'];rfl,?_⟩,by dsimp only;omega⟩;have hS:=hS.rm (x:=(xb,([]:List Row)));rw[show oq [] []=[] from rfl]at hS
  have hS:=zh.snoc (SL.cD hS (t:=.ob (zh eF L)::.ob (eF (xb,[]))::.pt sp [u] 197::jG u (L++[(xb,[])])::F) Xi);exact aR hS
 refine⟨[.ob (dV sp (List.replicate n.toNat []))],?_,SL.cD (dV.put (ts:=List.replicate n.toNat []) (by rw[hL];congr 1;omega) hS Xp) Xi⟩;unfold Ce;rw[zzb (by omega)];exact⟨sp,rfl,rfl⟩
def aR5{ts:List (List Row)}(h:∀C∈ts,gi C){c:d_}(ht:iq ts.length c=true):∀C∈kz ts c,gi C:=λC hC=>by
 rcases Kf hC with hC|rfl
 ·exact h C hC
 have h1:=h _ (Ec (zzp ht));unfold lF;split
 ·exact X3 h1 _
 exact K2 h1 _
def EM:∀{l:List d_} {ts:List (List Row)},(∀C∈ts,gi C)->(∀c∈l,iq ts.length c=true)->∀C∈gd ts l,gi C
 | [],ts,h,_=>h
 | c::l,ts,h,h2=>by
  show ∀C∈gd (kz ts c) l,gi C;refine EM (aR5 h (h2 c (.head _))) λx hx=>?_;rw[wP];exact h2 x (.tail _ hx)
def cJs(b:Nat)(C D:List Row)(c:d_)(hs:gi C)(hn:C.length<=1000000):SP 214 [agg (sx (b,D)),agg (dC c)] [.ob (eF (b,C))] (λ_ post=>post=[.ob (eF (b,lF C c))]):=by
 refine Enzz λW F w hS=>?_;apply cN8;delta a_;refine zu hS λxb w hS=>?_;refine zu hS λyb w hS=>?_;unfold dC sx at hS;obtain⟨ct,ck,cg,cv⟩:=c;refine Gp ?_;cases cg with
 | true=>
  refine zq ?_;refine Gp ?_;refine Cc (cxw b C ck hs hn) ?_;clear hS;rintro u post ⟨⟨q,rfl⟩,rfl⟩ w hS;try simp only[app]at hS
  have hS:SL W (.ob (eF (b,lF C ⟨ct,ck,true,cv⟩))::_::_::F) _:=hS;exact⟨_,rfl,aR hS⟩
 | false=>
  refine zp ?_;refine Gp ?_;refine Cc (YO b C ck hs hn cv) ?_;clear hS;rintro u post ⟨⟨q,rfl⟩,rfl⟩ w hS;try simp only[app]at hS
  have hS:SL W (.ob (eF (b,lF C ⟨ct,ck,false,cv⟩))::_::_::F) _:=hS;exact⟨_,rfl,aR hS⟩
section
variable (sp:Nat) (ts:List (List Row)) (H:bw) (v:Ε) (l:List d_) (hv:de H 4 v l.length (l.map dC).flatten) (hl:l.length<=140737488351232)
include hv hl
def Y4:SP 205 [cH sp,v] [.ob (dV sp ts),.mem H] (cE (.bool (l.all (iq ts.length))) [.ob (dV sp ts),.mem H]):=by
 refine Enzz λW F w hS=>?_;apply cNy;delta aI a_ cP cz ai cR;refine zo hv ?_;refine⟨λus w=>∃i:Nat,us=[Γ i]/\i<=l.length/\(∀j (h:j<l.length),j<i->iq ts.length l[j]=true)/\SL W (.ob (dV sp ts)::.mem H::F) w,λus _=>match us with|[.int _ i]=>(l.length-i).toNat|_=>0,⟨0,rfl,by omega,λj h hj=>by omega,hS⟩,?_⟩;clear hS;rintro v9 w ⟨i,cT,hi,eK,hS⟩;cases cT;refine cA (λh=>?_) (λh=>?_)
 ·have cG:i<l.length:=by omega
  refine zF hS Xh oF hv (x:=l[i]) (by simp[cG]) cG ?_;have hq:iq ts.length l[i]=decide (0<=l[i].table/\l[i].table<(ts.length:Int)):=rfl;have hf:iq ts.length l[i]=false->l.all (iq ts.length)=false:=λh=>tte.2 ⟨_,zzh cG,by rw[h];decide⟩;have I0:iq ts.length l[i]=true->∀j (h:j<l.length),j<i+1->iq ts.length l[j]=true:=λh j hj jk=>by
   by_cases e:j=i
   ·subst e;exact h
   exact eK j hj (by omega)
  clear eK;generalize l[i]=c at *
  obtain⟨ct,ck,cg,cv⟩:=c;refine Gm λb w hS=>?_;refine Cg (yu sp ts ct) λw hS=>?_;refine zy (λhb=>?_) (λhb=>?_)
  ·rw[hf (by rw[hq];exact hb)];(exact cF hS)
  refine Gp ?_;refine⟨⟨i+1,rfl,by omega,I0 (by rw[hq];exact hb),aR hS⟩,by dsimp only;omega⟩
 rw[show l.all (iq ts.length)=true from zz5.2 λc hc=>by
  obtain⟨j,hj,rfl⟩:=yyl hc;exact eK j hj (by omega)]
 (exact cF hS)
def ZV(hs:∀C∈ts,gi C)(N:Nat)(hn:∀C∈ts,C.length<=N)(hN:N+l.length<=1000000):SP 152 [cH sp,v] [.ob (dV sp ts),.mem H] (cE (.bool (l.all (iq ts.length))) [.ob (dV sp (if l.all (iq ts.length)=true then gd ts l else ts)),.mem H]):=by
 refine Enzz λW F w hS=>?_;apply cMg;delta aI bW a_ cP cz ai cR;refine Cg (Y4 sp ts H v l hv hl) λw hS=>?_;cases ha:l.all (iq ts.length) with
 | false=>
  refine zq ?_;rw[zzb (by decide)];(exact cF hS)
 | true=>
  refine zp ?_;rw[zzd rfl];have ha:=zz5.1 ha;refine zo hv ?_;refine⟨λus w=>∃i:Nat,us=[Γ i]/\i<=l.length/\SL W (.ob (dV sp (gd ts (l.take i)))::.mem H::F) w,λus _=>match us with|[.int _ i]=>(l.length-i).toNat|_=>0,⟨0,rfl,by omega,hS⟩,?_⟩;clear hS;rintro ue w ⟨i,cT,hi,hS⟩;cases cT;refine cA (λh=>?_) (λh=>?_)
  ·have cG:i<l.length:=by omega
   have gg:gd ts (l.take (i+1))=kz (gd ts (l.take i)) l[i]:=by rw[zze cG,RX]
   have kf:=ha _ (zzh cG);have vL:=um ts (l.take i);have tB:=EM (l:=l.take i) hs λc hc=>ha c (yys hc);have xx:=EL N (l:=l.take i) hn λc hc=>ha c (yys hc);have ly:(l.take i).length<=l.length:=by rw[zzg];omega
   generalize gd ts (l.take i)=T at *
   refine zF hS Xh oF hv (x:=l[i]) (by simp[cG]) cG ?_;generalize l[i]=c at *
   obtain⟨ct,ck,cg,cv⟩:=c;obtain⟨h0,h1⟩:0<=ct/\ct<(ts.length:Int):=zzp kf;obtain⟨t,rfl⟩:∃n:Nat,ct=n:=⟨ct.toNat,by omega⟩;have ht:t<T.length:=by omega
   have uY:T[t]∈T:=zzh ht;obtain⟨pv,L,hL,hS⟩:=dV.iff.1 hS;obtain⟨b0,hb⟩:=Ak hL ht;have IX:=ub hL;refine Gm λb w hS=>?_;refine zU hS Xh vy hb (by omega) ?_;refine Gp ?_;have hS:=zh.take (SL.cD hS (t:=.ob (zh eF L)::.pt sp [pv] 197::jG pv L::.mem H::F) Xi) hb;refine Cc (cJs b0 T[t] T[t] ⟨t,ck,cg,cv⟩ (tB _ uY) (by have:=xx _ uY;omega)) ?_;clear hS;rintro u post rfl w hS;(try simp only[app]at hS);refine Gp ?_
   have hS:=zh.put hS (by omega);have hS:=jG.set (D:=lF T[t] ⟨t,ck,cg,cv⟩) hb (SL.cD hS (t:=jG pv L::.ob (zh eF (L.set t (b0,lF T[t] ⟨t,ck,cg,cv⟩)))::.pt sp [pv] 197::.mem H::F) Xi);refine⟨⟨i+1,rfl,by omega,?_⟩,by dsimp only;omega⟩;rw[gg];refine SL.cD (dV.put (ts:=kz T ⟨t,ck,cg,cv⟩) ?_ hS Xp) Xi;rw[XV hL t b0];unfold kz;rw[ow T t ht];rfl
  obtain rfl:i=l.length:=by omega
  rw[zz0]at hS
  (exact cF hS)
end
structure Cb{κ:Type}[DecidableEq κ](P:Program)(kt:Ι)(key:κ->Ε):Prop where
 wide:∃fs,P.underlying kt=some (.struct fs)
 check:∀(k:κ) (em:Bool) (w:Ζ),(Instr.checkKey em 10000 kt (key k)).run P w= .ok () w
 eq:∀(a b:κ) (w:Ζ),(Op.equal kt (key a) (key b)).run P w= .ok (decide (a=b)) w
 stays:∀(k:κ) (w:Ζ),(Instr.keyThatStays (key k) (key k)).run P w= .ok (key k) w
 inj:∀{a b:κ},key a=key b->a=b
section
variable {W w:Ζ} {l l':Β} {κ α:Type} [DecidableEq κ] {key:κ->Ε} {val:α->Ε} {b:Nat} {m:List (κ × α)} {P:Program} {t kt et:Ι} {z:Ε} {k:κ}
def Fb(ok:Cb P kt key)(k:κ)(es:List MapEntry):(Instr.findKey kt (key k) es).run P w=(Instr.findAsking kt (key k) es).run P w:=by
 obtain⟨fs,hd⟩:=ok.wide;cases es with
 | nil=>simp[Instr.findKey,zzy hd,Result.andThen,Instr.findNow,Instr.findAsking]
 | cons e es=>simp[Instr.findKey,zzy hd,Result.andThen,Instr.findNow,Instr.sameNow]
def IB(ok:Cb P kt key)(k:κ):∀(es:List MapEntry) (m:List (κ × α)) (i:Nat),es.map kv=m.map (kw key val) ->
  ((Instr.findAsking kt (key k) es i).run P w= .ok none w/\fT m k=none/\(∀v,gM m k v=m++[(k,v)])/\∀x∈es,x.key≠key k) \/
  ∃j e a,(Instr.findAsking kt (key k) es i).run P w= .ok (some (i+j,val a)) w/\es[j]?=some e/\e.key=key k/\fT m k=some a /\
   (∀v,(es.modify j λe=>{e with key:=key k,val:=val v}).map kv=(gM m k v).map (kw key val))
 | [],[],_,_=>.inl ⟨rfl,rfl,λ_=>rfl,by simp⟩
 | [],_::_,_,h=>by simp at h
 | _::_,[],_,h=>by simp at h
 | e::es,p::m,i,h=>by
  simp only[zzr,List.cons.injEq]at h;obtain⟨h1,h2⟩:=h;obtain⟨x,y⟩:=p;simp only[kv,kw,wwl]at h1;obtain⟨pf,A4⟩:=h1;have hq:=ok.eq k x w;by_cases hx:x=k
  ·subst hx;rw[zzo rfl]at hq
   refine .inr ⟨0,e,y,by simp[Instr.findAsking,pf,hq,A4,Result.andThen],rfl,pf,by simp[fT],?_⟩;intro v;simp[gM,kv,kw];exact h2
  rw[zz3 (λh=>hx h.symm)]at hq
  rcases IB ok k es m (i+1) h2 with ⟨a1,a2,a3,a5⟩|⟨j,e',a,a1,a2,a3,a4,a5⟩
  ·refine .inl ⟨by simp[Instr.findAsking,pf,hq,a1,Result.andThen],by simp[fT,hx,a2],λv=>by simp[gM,hx,a3],?_⟩;intro z hz;rcases zz1.1 hz with rfl|hz
   ·rw[pf];exact λq=>hx (ok.inj q)
   exact a5 z hz
  refine .inr ⟨j+1,e',a,by simp[Instr.findAsking,pf,hq,a1,Result.andThen];omega,by simpa using a2,a3,by simp[fT,hx,a4],?_⟩;intro v;simp[gM,hx,kv,kw,pf,A4];exact a5 v
def cG4{K:Ε->Prop}(hS:SL W l w)(hm:Has (.ob (eJ key val b m)) l)(ok:Cb P kt key)(ht:P.underlying t=some (.map kt et))(hz:∀w,(zeroValue et).run P w= .ok z w)
  (h:K (.tuple #[((fT m k).map val).getD z,.bool (fT m k).isSome])):eS P (Instr.lookup t (.map (some b)) (key k) true) w K:=by
 obtain⟨es,c,e1,e2,hb⟩:=hS.z_ hm;rcases IB (w:=w) ok k es m 0 e1 with ⟨a1,a2,_,_⟩|⟨j,e,a,a1,_,_,a4,_⟩
 ·refine⟨_,?_,h⟩;simp[Instr.lookup,zzy ht,yy3 hb,ok.check,Fb ok,a1,hz,Result.andThen,a2]
 refine⟨_,?_,h⟩;simp[Instr.lookup,zzy ht,yy3 hb,ok.check,Fb ok,a1,Result.andThen,a4]
def cG5{v:α}{K:Ε->Ζ->Prop}(hS:SL W l w)(u:gj (.ob (eJ key val b m)) (.ob (eJ key val b (gM m k v))) l l')(ok:Cb P kt key)(ht:P.underlying t=some (.map kt et))
  (h:∀u w',SL W l' w'->K u w'):zS P (do Instr.mapUpdate t (.map (some b)) (key k) (val v);pure undef) w K:=by
 obtain⟨es,c,e1,e2,hb⟩:=hS.z_ u.has;rcases IB (w:=w) ok k es m 0 e1 with ⟨a1,_,a3,a5⟩|⟨j,e,a,a1,a2,a3,_,a5⟩
 ·refine⟨undef,{w with heap:=w.heap.setIfInBounds b (.map (es++[({key:=key k,val:=val v,born:=c}:MapEntry)]).toArray (c+1))},?_,h _ _ (hS.BE u hb (by rw[a3];simp[e1,kv,kw]) ?_)⟩
  ·simp[Instr.mapUpdate,zzy ht,yy3 hb,ok.check,Fb ok,a1,wwo _ hb,Result.andThen]
  have:=MapKept.stamped_push e2 (key:=key k) (val:=val v) (by simpa using a5);simpa using this
 refine⟨undef,{w with heap:=w.heap.setIfInBounds b (.map (es.modify j λe=>{e with key:=key k,val:=val v}).toArray c)},?_,h _ _ (hS.BE u hb (a5 v) ?_)⟩
 ·have hj:es.toArray[j]?=some e:=by simpa using a2
  simp[Instr.mapUpdate,zzy ht,yy3 hb,ok.check,Fb ok,a1,a2,a3,ok.stays,wwo _ hb,Result.andThen]
 have xI:∀e',es.toArray[j]?=some e'->({e' with key:=key k,val:=val v}:MapEntry).key=e'.key:=λe' lk=>by
  have:es[j]?=some e':=by simpa using lk
  rw[a2]at this;cases this;exact a3.symm
 have:=MapKept.stamped_modify e2 j (λe=>{e with key:=key k,val:=val v}) (λ_ _=>rfl) (λe' _ lk=>xI e' lk);simpa using this
end
def CM(p:Int × Int):Ξ:=[Γ p.1,Γ p.2]
def lW(p:Int × Int):Ε:=agg (CM p)
def bI6(a b:Int × Int)(w:Ζ):(Op.equal 326 (lW a) (lW b)).run prog w= .ok (decide (a=b)) w:=by
 refine wy uu9 (by kernel_rfl) ?_;obtain⟨k1,v1⟩:=a;obtain⟨k2,v2⟩:=b;simp[CM,Op.eqFields,part,xxd (h:=yyr),xxd (h:=yyd),Result.andThen];by_cases h0:k1=k2<;>by_cases h1:v1=v2<;>simp[*]
def WX:Cb prog 326 lW where
 wide:=⟨_,uu9⟩
 check:=λk em w=>by
  obtain⟨a,b⟩:=k;have h1:(Instr.checkKey em 9999 3 (Γ a)).run prog w= .ok () w:=xxl (k:=Γ a) yyd (py .i64 |>.is a) em 9998;have h2:(Instr.checkKey em 9999 2 (Γ b)).run prog w= .ok () w:=xxl (k:=Γ b) yyr (py .i64 |>.is b) em 9998;show (Instr.checkKey em (9999+1) _ _).run prog w=_;unfold Instr.checkKey;simp[lW,CM,zzy uu9,part,h1,h2,Result.andThen]
 eq:=bI6
 stays:=λk w=>by
  have:Instr.sameBits 10000 (lW k) (lW k)=true:=by simp[lW,CM,Instr.sameBits]
  simp[Instr.keyThatStays,this]
 inj:=λ{a b} h=>by
  obtain⟨a1,a2⟩:=a;obtain⟨b1,b2⟩:=b;simp[lW,CM]at h
  rw[h.1,h.2]
def cHj{W w:Ζ}{l:Β}{α:Type}{enc:α->Ξ}{v:Ε}{t:Ι}{sz j:Nat}{k:IntKind}{xs:List α}{y:α}{K:Ζ->Prop}(hS:SL W (.ob (bF v t sz xs.length (xs.map enc).flatten)::l) w)(hn:∀x,(enc x).length=sz)
  (hj:j<xs.length) (h1:∀v∈enc y,v.oneCell'=true) (hK:∀w',SL W (.ob (bF v t sz (xs.set j y).length ((xs.set j y).map enc).flatten)::l) w'->K w'):zk sz v (.int k (j:Int)) λq=>zj sz q (agg (enc y)) w K:=by
 rcases bF.open hS with ⟨_,h0,_⟩|⟨b,cap,rest,rfl,hc,hlen,jD,hS⟩
 ·omega
 have dj:j*sz+sz<=xs.length*sz:=by
  have:(j+1)*sz<=xs.length*sz:=yyv _ hj
  rwa [yyu,wwp]at this
 refine zG hj ?_;rw[yya];refine ZT hS .hd (hn y) (by rw[zza];omega) h1 λw' hS=>hK w' ?_;have e:((xs.map enc).flatten++rest).take (j*sz)++enc y++((xs.map enc).flatten++rest).drop (j*sz+sz)=((xs.set j y).map enc).flatten++rest:=by
  rw[xxg (by omega),xxh (by omega),uz hn,show j*sz+sz=(j+1)*sz by rw[yyu,wwp],vE hn,xxi,zzd hj];simp
 rw[e]at hS
 have hl:(xs.set j y).length=xs.length:=yyh;rw[hl];exact bF.mk hc (by rw[mN hn,hl]) jD hS
def cKc(sp:Nat)(ts:List (List Row))(H:bw)(v:Ε)(t:Nat)(l:List Row)(ht:t<ts.length)(hv:de H 2 v l.length (l.map eD).flatten)(hs:gi l)(hl:l.length<=100000):
  SP 195 [cH sp,Γ (t:Int),v] [.ob (dV sp ts),.mem H] (cE (.bool true) [.ob (dV sp (ts.set t l)),.mem H]):=by
 refine Enzz λW F w hS=>?_;apply cNn;delta aW b_ cY;refine Cg (yu sp ts t) λw hS=>?_;refine Υ ?_;obtain⟨pv,L,hL,hS⟩:=dV.iff.1 hS;have hl2:=ub hL;obtain⟨b0,hb⟩:=Ak hL ht;refine Gn λw hS=>?_;refine Cc (YN H v l hv hl) ?_;clear hS;rintro u post ⟨xb,rfl,rfl⟩ w hS;try simp only[app]at hS
 rw[cEn hs]at hS
 refine Gp ?_;refine cHj (enc:=sx) (y:=(xb,l)) (SL.cD hS (t:=jG pv L::.ob (zh eF L)::.ob (eF (xb,l))::.pt sp [pv] 197::.mem H::F) Xi) vy (by omega) (by simp[sx,Value.oneCell']) λw hS=>?_;have hS:=zh.take (SL.cD hS (t:=.ob (zh eF L)::.ob (eF (xb,l))::.pt sp [pv] 197::jG pv (L.set t (xb,l))::.mem H::F) Xi) hb;have hS:=zh.put (SL.cD hS (t:=.ob (eF (xb,l))::.ob (zh eF (L.eraseIdx t))::.pt sp [pv] 197::jG pv (L.set t (xb,l))::.mem H::F) Xi) (by omega);have hS:=dV.put (XV hL t xb l) hS Xp;refine Cg (yu sp (ts.set t l) t) λw hS=>?_;rw[show decide (0<=(t:Int)/\(t:Int)<((ts.set t l).length:Int))=true from zzo (by rw[yyh];omega)];(exact cF hS)
def Vs:∀{C:List Row},gi C->∀(k:Int) (v:Η),(gX C ⟨k,v⟩).length=C.length+if (fe C k).isSome=true then 0 else 1
 | [],_,k,v=>by simp[gX,fe]
 | x::C,h,k,v=>by
  unfold gi at h;rw[yyg]at h
  unfold gX;by_cases h1:x.key<k
  ·have hg:fe (x::C) k=fe C k:=by unfold fe;rw[xxx];simp[show ¬x.key=k by omega]
   rw[zzd h1,zzj,Vs (C:=C) h.2 k v,zzj,hg];omega
  rw[zzb h1];by_cases h2:x.key=k
  ·have hg:(fe (x::C) k).isSome=true:=by unfold fe;rw[xxx];simp[h2]
   rw[zzd h2,hg];simp
  have hg:fe (x::C) k=none:=by
   unfold fe;have:(x::C).find? (λc=>decide (c.key=k))=none:=by
    rw[uu6];intro y hy;rcases zz1.1 hy with rfl|hy
    ·simpa using h2
    have:=h.1 y hy;simp;omega
   rw[this];rfl
  rw[zzb h2,hg];simp
def SS:∀(C:List Row) (k:Int),((ka C k).length:Int)=C.length-if (fe C k).isSome=true then 1 else 0
 | [],k=>by simp[ka,fe]
 | x::C,k=>by
  unfold ka;by_cases h:x.key=k
  ·have hg:(fe (x::C) k).isSome=true:=by unfold fe;rw[xxx];simp[h]
   rw[zzd h,hg];simp
  have hg:fe (x::C) k=fe C k:=by unfold fe;rw[xxx];simp[h]
  rw[zzb h,hg,zzj,zzj];have:=SS C k;omega
def cF0{C:List Row}(h:gi C)(c:d_):((lF C c).length:Int)=C.length+(if (fe C c.key).isSome=true then (if c.gone=true then -1 else 0) else (if c.gone=true then 0 else 1)):=by
 unfold lF;cases c.gone with
 | true=>
  rw[zzd rfl,SS];split<;>simp<;>omega
 | false=>
  rw[zzb (by decide)];have:=Vs h c.key c.val;rw[this];split<;>simp
def cF1{C:List Row}(h:gi C)(c:d_)(k:Int):(fe (lF C c) k).isSome=if c.key=k then !c.gone else (fe C k).isSome:=by
 unfold lF;cases hg:c.gone with
 | true=>
  rw[zzd rfl,TA h];split<;>rfl
 | false=>
  rw[zzb (by decide),TB];split<;>rfl
def Cd(ts T:List (List Row))(m:List ((Int × Int) × Bool)):Prop:=∀p:Int × Int,match fT m p with
 | none=>fe (gv T p.1) p.2=fe (gv ts p.1) p.2
 | some b=>(fe (gv T p.1) p.2).isSome=b
def cBn{κ α:Type}[DecidableEq κ](m:List (κ × α))(k:κ)(v:α)(k':κ):fT (gM m k v) k'=if k=k' then some v else fT m k':=by
 induction m with
 | nil=>simp[gM,fT]
 | cons p m ih=>
  unfold gM;by_cases h:p.1=k
  ·rw[zzd h];by_cases h1:k=k'
   ·simp[fT,h1]
   simp[fT,h1,show ¬p.1=k' by rw[h];exact h1]
  rw[zzb h];by_cases h1:p.1=k'
  ·have:¬k=k':=λe=>h (by rw[h1,e]);simp[fT,h1,this]
  simp only[fT,zzb h1];exact ih
def cJg{T:List (List Row)}{c:d_}(hc:iq T.length c=true)(t:Int):gv (kz T c) t=if t=c.table then lF (gv T c.table) c else gv T t:=by
 obtain⟨h0,h1⟩:=zzp hc;unfold kz;by_cases ht:0<=t/\t<(T.length:Int)
 ·obtain⟨n,rfl⟩:∃n:Nat,t=n:=⟨t.toNat,by omega⟩;have hn:n<T.length:=by omega
  rw[ow _ n (by rw[yyh];exact hn),xxr];by_cases e:c.table.toNat=n
  ·rw[zzd e,zzd (by omega)]
  rw[zzb e,zzb (by omega),ow T n hn]
 rw[Ed (by rw[yyh];exact ht),zzb (by omega),Ed ht]
def Cd.step{ts T:List (List Row)}{m:List ((Int × Int) × Bool)}(h:Cd ts T m)(hs:∀C∈T,gi C){c:d_}(hc:iq T.length c=true):Cd ts (kz T c) (gM m (c.table,c.key) (!c.gone)):=by
 have UY:=hs _ (Ec (zzp hc));rintro ⟨t,k⟩;rw[cBn];have hk:=h (t,k);simp only at hk ⊢;rw[cJg hc];by_cases e:(c.table,c.key)=(t,k)
 ·rw[zzd e];simp only[wwl]at e;rw[zzd e.1.symm,cF1 UY,zzd e.2]
 rw[zzb e];simp only[wwl,not_and]at e;by_cases e1:t=c.table
 ·rw[zzd e1];have e2:=e e1.symm;subst e1;have hg:fe (lF (gv T c.table) c) k=fe (gv T c.table) k:=by
   unfold lF;split
   ·rw[TA UY,zzb e2]
   rw[TB,zzb e2]
  rw[hg];exact hk
 rw[zzb e1];exact hk
def kB(T:List (List Row)):Ξ:=T.map λC=>Γ (C.length:Nat)
def bwc(T:List (List Row)):(kB T).length=T.length:=by simp[kB]
def Sr{T:List (List Row)}{c:d_}{t:Nat}(ht:c.table=t)(h:t<T.length):kB (kz T c)=(kB T).set t (Γ ((lF T[t] c).length:Nat)):=by
 unfold kB kz;rw[vvr,ht,zzz,ow T t h]
def bwe{T:List (List Row)}{c:d_}{t:Nat}(ht:c.table=t)(h:t<T.length)(hl:(lF T[t] c).length=T[t].length):kB (kz T c)=kB T:=by
 rw[Sr ht h,hl];unfold kB;rw[<- vvr (f:=λC:List Row=>Γ (C.length:Nat)) (a:=T[t]),uur]
def H_{T:List (List Row)}{t:Nat}(h:t<T.length):(kB T)[t]?=some (Γ (T[t].length:Nat)):=by simp[kB,h]
def qh{W w:Ζ}{l:Β}{v u:Ε}{t:Ι}{n j:Nat}{k:IntKind}{cells:Ξ}{K:Ζ->Prop}(hS:SL W (.ob (bF v t 1 n cells)::l) w)(hj:j<n)(h1:u.oneCell'=true)
  (hK:∀w',SL W (.ob (bF v t 1 n (cells.set j u))::l) w'->K w'):zk 1 v (.int k (j:Int)) λq=>eE q u w K:=by
 rcases bF.open hS with ⟨_,h0,_⟩|⟨b,cap,rest,rfl,hc,hlen,jD,hS⟩
 ·omega
 refine zG hj ?_;rw[yya,wwq];refine Zu hS .hd (zzc (by rw[zza];omega)) h1 λw' hS=>hK w' ?_;rw[ww1 _ _ (by omega)]at hS
 exact bF.mk hc (by rw[yyh];exact hlen) jD hS
def S9(t k:Int)(g:Bool)(v:Η):dC ⟨t,k,g,v⟩=[Γ t,Γ k,.bool g,.string v]:=rfl
def cKa(sp:Nat)(ts:List (List Row))(H:bw)(v:Ε)(l:List d_)(hv:de H 4 v l.length (l.map dC).flatten)(hl:l.length<=140737488351232)(hs:∀C∈ts,gi C)(hn:∀C∈ts,C.length<=1000000)(hl6:l.length<=1000000)(DB:ts.length<=1000):
  SP 149 [cH sp,v] [.ob (dV sp ts),.mem H] (cE (.bool (mM ts l)) [.ob (dV sp ts),.mem H]):=by
 refine Enzz λW F w hS=>?_;apply cMd;delta aI bW a_ cP cz AF ai cY cR;refine Cg (Y4 sp ts H v l hv hl) λw hS=>?_;cases ha:l.all (iq ts.length) with
 | false=>
  refine zq ?_;rw[show mM ts l=false by unfold mM;rw[ha];rfl];(exact cF hS)
 | true=>
  refine zp ?_;have hF:mM ts l=(gd ts l).all λC=>decide (C.length<=1000):=by unfold mM;rw[ha];rfl
  have ha:=zz5.1 ha;obtain⟨pv,L,hL,hS⟩:=dV.iff.1 hS;have IX:=ub hL;refine Gp ?_;refine zz hS Xh ?_;refine XC hS (zzi _) (by omega) (by omega) λnb w hS=>?_;have hS:=bF.full (sz:=1) (n:=L.length) (by rw[l7];rfl) hS;refine Gp ?_;refine zz hS Xh ?_;refine⟨λus w=>∃(i:Nat) (cells:Ξ),us=[Γ i]/\i<=L.length/\cells.length=L.length/\(∀j (h:j<ts.length),j<i->cells[j]?=some (Γ (ts[j].length:Nat)))/\SL W (.ob (bF (.slice (some ⟨nb,0,none⟩) L.length L.length) 3 1 L.length cells)::.pt sp [pv] 197::jG pv L::.ob (zh eF L)::.mem H::F) w,
   λus _=>match us with|[.int _ i]=>(L.length-i).toNat|_=>0,⟨0,cQ [Γ 0] L.length,rfl,by omega,by rw[l7];exact wwq _,λj h hj=>by omega,aR hS⟩,?_⟩
  clear hS;rintro v31 w ⟨i,cells,cT,hi,mP,iP,hS⟩;cases cT;refine cA (λh=>?_) (λh=>?_)
  ·have cG:i<ts.length:=by omega
   obtain⟨b0,hb⟩:=Ak hL cG;refine zU hS Xh vy hb (by omega) ?_;unfold sx;refine Gm λb w hS=>?_;have hS:=zh.take (SL.cD hS (t:=.ob (zh eF L)::.ob (bF (.slice (some ⟨nb,0,none⟩) L.length L.length) 3 1 L.length cells)::.pt sp [pv] 197::jG pv L::.mem H::F) Xi) hb;refine Cc (YM b0 ts[i]) ?_;clear hS;rintro u post ⟨rfl,rfl⟩ w hS;try simp only[app]at hS
   have hS:=zh.back hS hb;refine qh (SL.cD hS (t:=.ob (bF (.slice (some ⟨nb,0,none⟩) L.length L.length) 3 1 L.length cells)::.pt sp [pv] 197::jG pv L::.ob (zh eF L)::.mem H::F) Xi) (by omega) rfl λw hS=>?_;refine Gp ?_;refine⟨⟨i+1,_,rfl,by omega,by rw[yyh];exact mP,λj hj jk=>?_,hS⟩,by dsimp only;omega⟩;rw[List.getElem?_set];by_cases e:i=j
   ·subst e;rw[zzd rfl,zzd (by omega)]
   rw[zzb e];exact iP j hj (by omega)
  obtain rfl:i=L.length:=by omega
  have FB:cells=kB ts:=by
   refine uun λj=>?_;rcases xx6 j ts.length with hj|hj
   ·rw[iP j hj (by omega),H_ hj]
   rw[yyt (by omega),yyt (by rw[bwc];omega)]
  subst FB;clear iP mP;have hS:=dV.put hL hS Xp;clear hL;refine zo hv ?_;have hS:=hS.Kb (key:=lW) (val:=Value.bool);generalize w.heap.size=mb at *
  generalize w.alloc (.map #[] 0)=w at *
  rw[show kB ts=kB (gd ts (l.take 0)) from rfl]at hS
  refine⟨λus w=>∃(i:Nat) (m:List ((Int × Int) × Bool)),us=[Γ i]/\i<=l.length/\Cd ts (gd ts (l.take i)) m/\SL W (.ob (dV sp ts)::.ob (eJ lW Value.bool mb m)::.ob (bF (.slice (some ⟨nb,0,none⟩) L.length L.length) 3 1 L.length (kB (gd ts (l.take i))))::.mem H::F) w,
   λus _=>match us with|[.int _ i]=>(l.length-i).toNat|_=>0,⟨0,[],rfl,by omega,λp=>rfl,aR hS⟩,?_⟩
  clear hS;rintro v46 w ⟨i,m,cT,hi,hM,hS⟩;cases cT;refine cA (λh=>?_) (λh=>?_)
  ·have cG:i<l.length:=by omega
   have gg:gd ts (l.take (i+1))=kz (gd ts (l.take i)) l[i]:=by rw[zze cG,RX]
   have kf:=ha _ (zzh cG);have vL:=um ts (l.take i);have tB:=EM (l:=l.take i) hs λc hc=>ha c (yys hc);have xx:=EL 1000000 (l:=l.take i) hn λc hc=>ha c (yys hc);have ly:(l.take i).length<=l.length:=by rw[zzg];omega
   generalize gd ts (l.take i)=T at *
   refine zF hS Xh oF hv (x:=l[i]) (by simp[cG]) cG ?_;generalize l[i]=c at *
   obtain⟨ct,ck,cg,cv⟩:=c;obtain⟨h0,h1⟩:0<=ct/\ct<(ts.length:Int):=zzp kf;obtain⟨t,rfl⟩:∃n:Nat,ct=n:=⟨ct.toNat,by omega⟩;have ht:t<T.length:=by omega
   have gR:t<ts.length:=by omega
   have uY:T[t]∈T:=zzh ht;have dj:=xx _ uY;have tA:=hM (t,ck);have uF:=hM.step tB (c:=⟨t,ck,cg,cv⟩) (by rw[vL];exact kf);have sF:=cF0 (tB _ uY) ⟨t,ck,cg,cv⟩;simp only at tA uF sF;rw[ow T t ht,ow ts t gR]at tA
   rw[<- gg]at uF
   clear hM;rw[S9];refine Gb λcb w hS=>?_;refine Gb λpb w hS=>?_;refine cG4 (key:=lW) (val:=Value.bool) (z:=.bool false) (k:=((t:Int),ck)) hS Xh WX underlying324 (λw=>by kernel_rfl) ?_;refine Gp ?_;refine⟨λus w=>us=[.bool (fe T[t] ck).isSome]/\SL W (.pt pb [Γ t,Γ ck] 326::.pt cb [Γ t,Γ ck,.bool cg,.string cv] 40::.ob (dV sp ts)::.ob (eJ lW Value.bool mb m)::.ob (bF (.slice (some ⟨nb,0,none⟩) L.length L.length) 3 1 L.length (kB T))::.mem H::F) w,?_,?_⟩
   ·cases Bi:fT m ((t:Int),ck) with
    | none=>
     rw[Bi]at tA
     refine z8 (zq ?_);have tA:fe T[t] ck=fe ts[t] ck:=tA;obtain⟨pv,L2,hL,hS⟩:=dV.iff.1 (SL.cD hS (t:=.ob (dV sp ts)::.pt pb [Γ t,Γ ck] 326::.pt cb [Γ t,Γ ck,.bool cg,.string cv] 40::.ob (eJ lW Value.bool mb m)::.ob (bF (.slice (some ⟨nb,0,none⟩) L.length L.length) 3 1 L.length (kB T))::.mem H::F) Xi);obtain⟨b0,hb⟩:=Ak hL gR;have cWi:=ub hL;refine Gn λw hS=>?_;refine yh hS Xh vy hb (by omega) (i:=0) rfl ?_;refine Gp ?_;have hS:=zh.take (SL.cD hS (t:=.ob (zh eF L2)::.pt sp [pv] 197::jG pv L2::.pt pb [Γ t,Γ ck] 326::.pt cb [Γ t,Γ ck,.bool cg,.string cv] 40::.ob (eJ lW Value.bool mb m)::.ob (bF (.slice (some ⟨nb,0,none⟩) L.length L.length) 3 1 L.length (kB T))::.mem H::F) Xi) hb;refine Cc (cx1 b0 ts[t] ck (hs _ (zzh gR)) (hn _ (zzh gR))) ?_;clear hS;rintro u post ⟨rfl,rfl⟩ w hS;try simp only[app]at hS
     have hS:=dV.put hL (zh.back hS hb) Xp;unfold Ty;refine Gp ?_;exact⟨by rw[tA],aR hS⟩
    | some q=>
     rw[Bi]at tA
     have tA:(fe T[t] ck).isSome=q:=tA;refine z8 (zp ?_);exact⟨by rw[tA];rfl,aR hS⟩
   clear hS;rintro v12 w ⟨cT,hS⟩;cases cT;refine Gp ?_;refine cG5 (key:=lW) (val:=Value.bool) (k:=((t:Int),ck)) (v:=!cg) hS Xu WX underlying324 λ_ w hS=>?_;have gL:∀{w:Ζ} {cells:Ξ},cells=kB (gd ts (l.take (i+1)))->SL W (.ob (bF (.slice (some ⟨nb,0,none⟩) L.length L.length) 3 1 L.length cells)::.ob (dV sp ts)::.ob (eJ lW Value.bool mb (gM m ((t:Int),ck) (!cg)))::.mem H::F) w ->
     ∃(i':Nat) (m':List ((Int × Int) × Bool)),[Γ ((i+1:Nat):Int)]=[Γ i']/\i'<=l.length/\Cd ts (gd ts (l.take i')) m'/\SL W (.ob (dV sp ts)::.ob (eJ lW Value.bool mb m')::.ob (bF (.slice (some ⟨nb,0,none⟩) L.length L.length) 3 1 L.length (kB (gd ts (l.take i'))))::.mem H::F) w:=λe hS=>by
    subst e;exact⟨i+1,_,rfl,by omega,uF,aR hS⟩
   have T4:=H_ ht;have tE:=Sr (T:=T) (c:=⟨t,ck,cg,cv⟩) rfl ht;have uX:=bwe (T:=T) (c:=⟨t,ck,cg,cv⟩) rfl ht;rw[<- gg]at tE uX
   refine⟨λus w=>us=[.bool ((fe T[t] ck).isSome && cg)]/\SL W (.pt cb [Γ t,Γ ck,.bool cg,.string cv] 40::.ob (dV sp ts)::.ob (eJ lW Value.bool mb (gM m ((t:Int),ck) (!cg)))::.ob (bF (.slice (some ⟨nb,0,none⟩) L.length L.length) 3 1 L.length (kB T))::.mem H::F) w,?_,?_⟩
   ·cases (fe T[t] ck).isSome with
    | false=>
     refine Gp ?_;exact⟨rfl,aR hS⟩
    | true=>
     refine Gp ?_;exact⟨by simp,aR hS⟩
   clear hS;rintro v83 w ⟨cT,hS⟩;cases cT;cases hw:(fe T[t] ck).isSome<;>cases cg<;>rw[hw]at sF
   ·refine zp (z8 (zq ?_));refine Gp ?_;refine zq ?_;refine Gp ?_;refine yg hS Xh (by omega) T4 ?_;refine Gp ?_;refine qh (SL.cD hS (t:=.ob (bF (.slice (some ⟨nb,0,none⟩) L.length L.length) 3 1 L.length (kB T))::.ob (dV sp ts)::.ob (eJ lW Value.bool mb (gM m ((t:Int),ck) (!false)))::.mem H::F) Xi) (by omega) rfl λw hS=>?_;refine Gp ?_;exact⟨gL (by rw[tE];congr 2;simp at sF;omega) hS,by dsimp only;omega⟩
   ·refine zp (z8 (zq ?_));refine Gp ?_;refine zp ?_;refine Gp ?_;exact⟨gL (uX (by simp at sF;omega)).symm (aR hS),by dsimp only;omega⟩
   ·refine zp (z8 (zp ?_));refine Gp ?_;exact⟨gL (uX (by simp at sF;omega)).symm (aR hS),by dsimp only;omega⟩
   refine zq ?_;refine Gp ?_;refine yg hS Xh (by omega) T4 ?_;refine Gp ?_;refine qh (SL.cD hS (t:=.ob (bF (.slice (some ⟨nb,0,none⟩) L.length L.length) 3 1 L.length (kB T))::.ob (dV sp ts)::.ob (eJ lW Value.bool mb (gM m ((t:Int),ck) (!true)))::.mem H::F) Xi) (by omega) rfl λw hS=>?_;refine Gp ?_;exact⟨gL (by rw[tE];congr 2;simp at sF;omega) hS,by dsimp only;omega⟩
  obtain rfl:i=l.length:=by omega
  rw[zz0]at hS
  have vL:=um ts l;generalize gd ts l=T at *
  refine Gp ?_;refine⟨λus w=>∃j:Nat,us=[Γ j]/\j<=T.length/\(∀k (h:k<T.length),k<j->T[k].length<=1000)/\SL W (.ob (dV sp ts)::.ob (bF (.slice (some ⟨nb,0,none⟩) L.length L.length) 3 1 L.length (kB T))::.mem H::F) w,
   λus _=>match us with|[.int _ i]=>(T.length-i).toNat|_=>0,⟨0,rfl,by omega,λk h hk=>by omega,aR hS⟩,?_⟩
  clear hS;rintro cXy w ⟨j,cT,hj,eK,hS⟩;cases cT;refine cA (λh=>?_) (λh=>?_)
  ·have gW:j<T.length:=by omega
   refine yg hS Xh (by omega) (H_ gW) ?_;refine cA (λh2=>?_) (λh2=>?_)
   ·rw[hF,show (T.all λC=>decide (C.length<=1000))=false from tte.2 ⟨_,zzh gW,by simp;omega⟩];(exact cF hS)
   refine Gp ?_;refine⟨⟨j+1,rfl,by omega,λk hk Jl=>?_,hS⟩,by dsimp only;omega⟩;by_cases e:k=j
   ·subst e;omega
   exact eK k hk (by omega)
  rw[hF,show (T.all λC=>decide (C.length<=1000))=true from zz5.2 λC hC=>by
   obtain⟨k,hk,rfl⟩:=yyl hC;exact zzo (eK k hk (by omega))]
  (exact cF hS)
def qT(c:d_)(k:Int):SP 204 [agg (dC c),Γ k] [] (cE (.bool (mW c k)) []):=by
 refine Enzz λW F w hS=>?_;apply cNx;delta aI a_ cP cz ai;refine zu hS λb w hS=>?_;unfold dC at hS;have hF:∀{w:Ζ},¬(0<=c.table/\c.table<k/\1<=c.key/\c.key<=1099511627776/\c.val.size<=32)->SL W (.pt b [Γ c.table,Γ c.key,.bool c.gone,.string c.val] 40::F) w ->
   ∃post,cE (.bool (mW c k)) [] (.bool false) post/\SL W (app post F) w:=λh hS=>⟨_,⟨by rw[show mW c k=false by unfold mW;rw[xxc];exact λk=>h ⟨k.1,k.2.1,k.2.2.1,k.2.2.2.1,k.2.2.2.2.1⟩],rfl⟩,aR hS⟩
 refine Gp ?_;refine za (λ_=>hF (by omega) hS) (λ_=>?_);refine Gp ?_;refine za (λ_=>hF (by omega) hS) (λ_=>?_);refine Gp ?_;refine za (λ_=>hF (by omega) hS) (λ_=>?_);refine Gp ?_;refine za (λ_=>hF (by omega) hS) (λ_=>?_);(repeat (first|refine Gp ?_|refine Gw λw hS=>?_|refine za (λ_=>hF (by omega) hS) (λ_=>?_)|refine za (λ_=>?_) (λ_=>hF (by omega) hS)))
 have e:mW c k=decide (c.gone=true->c.val=emp):=by
  unfold mW;rw[yyj];exact⟨λh=>h.2.2.2.2.2,λh=>⟨by omega,by omega,by omega,by omega,by omega,h⟩⟩
 rw[e];refine zy (λh=>?_) (λh=>?_)
 ·rw[h,zzo (by simp)];(exact cF hS)
 refine Gp ?_;rw[h];have e2:decide (true=true->c.val=emp)=decide (c.val={data:=#[]}):=by rw[yyj];exact⟨λh=>h rfl,λh _=>h⟩
 rw[e2];(exact cF hS)
def V6{t:cM}(h:¬(1<=t.aw/\t.aw<=1099511627776)):eG t=false:=by
 unfold eG;rw[zz3 h];rfl
def Kd{t:cM}(hk:t.kind=1)(h:¬(t.mark=0/\t.changes.length<=16/\t.signals.length<=2)):eG t=false:=by
 unfold eG;rw[zzd hk,zz3 h];simp
def cBb{t:cM}{i:Nat}(hk:t.kind=1)(hi:i<t.changes.length)(h:mW t.changes[i] 8=false):eG t=false:=by
 cases hm:eG t with
 | false=>rfl
 | true=>
  rw[(my hm).2.2.2.2.2.1 _ (zzh hi)]at h;cases h
def cBc{t:cM}{i:Nat}(hk:t.kind=1)(hi:i<t.signals.length)(h:¬t.signals[i].size<=40):eG t=false:=by
 cases hm:eG t with
 | false=>rfl
 | true=>exact absurd ((my hm).2.2.2.2.2.2 _ (zzh hi)) h
def cBf{t:cM}(hl:1<=t.aw/\t.aw<=1099511627776)(hk:t.kind=1)(h:t.mark=0/\t.changes.length<=16/\t.signals.length<=2)(h1:∀j (hj:j<t.changes.length),mW t.changes[j] 8=true)(h2:∀j (hj:j<t.signals.length),t.signals[j].size<=40):eG t=true:=by
 refine wg.2 ⟨hl,.inl ⟨hk,h.1,h.2.1,h.2.2,λc hc=>?_,λs hs=>?_⟩⟩
 ·obtain⟨j,hj,rfl⟩:=yyl hc;exact h1 j hj
 obtain⟨j,hj,rfl⟩:=yyl hs;exact h2 j hj
def cBd{t:cM}(hl:1<=t.aw/\t.aw<=1099511627776)(hk:t.kind=2\/t.kind=3):eG t=decide (1<=t.mark/\t.mark<=1099511627776/\t.changes.length=0/\t.signals.length=0):=by
 rw[uux,wg,zzw];simp only[wwj];constructor
 ·rintro ⟨_,h|h⟩
  ·omega
  exact h.2
 exact λh=>⟨hl,.inr ⟨hk,h⟩⟩
def cBe{t:cM}(h:¬(1<=t.kind/\t.kind<=3)):eG t=false:=by
 cases hm:eG t with
 | false=>rfl
 | true=>exact absurd (my hm).2.1 h
abbrev ui(b:Nat)(x:lM)(t:cM):Μ:=.pt b [Γ t.aw,Γ t.kind,x.cv,x.sv,Γ t.mark] 89
def qU(H:bw)(x:lM)(t:cM)(hx:lL H x t)(hl:1<=t.aw/\t.aw<=1099511627776)(hk:t.kind=1):SP 148 [agg (eV x)] [.mem H] (cE (.bool (eG t)) [.mem H]):=by
 refine Enzz λW F w hS=>?_;apply cMc;delta aI a_ cP cz ai cR;refine zu hS λxb w hS=>?_;unfold eV at hS;rw[hx.aw,hx.kind,hx.mark]at hS
 have hF:∀{w:Ζ},eG t=false->SL W (ui xb x t::.mem H::F) w->∃post,cE (.bool (eG t)) [.mem H] (.bool false) post/\SL W (app post F) w:=λh hS=>⟨_,⟨by rw[h],rfl⟩,aR hS⟩;refine Gp ?_;refine za (λh=>hF (Kd hk (by omega)) hS) (λh1=>?_);refine Gp ?_;refine zo hx.cv ?_;refine Gp ?_;refine za (λh=>hF (Kd hk (by omega)) hS) (λh2=>?_);refine Gp ?_;refine zo hx.sv ?_;refine Gp ?_;refine za (λh=>hF (Kd hk (by omega)) hS) (λh3=>?_);refine Gp ?_;refine zo hx.cv ?_;refine⟨λvs w=>∃i:Nat,vs=[Γ i]/\i<=t.changes.length/\(∀j (hj:j<t.changes.length),j<i->mW t.changes[j] 8=true)/\SL W (ui xb x t::.mem H::F) w,
  λvs _=>match vs with|[.int _ i]=>(t.changes.length-i).toNat|_=>0,⟨0,rfl,by omega,λj hj h=>by omega,hS⟩,?_⟩
 clear hS;rintro v3 w ⟨i,eY,hi,eK,hS⟩;cases eY;refine cA (λh=>?_) (λh=>?_)
 ·have cG:i<t.changes.length:=by omega
  refine zF hS Xh oF hx.cv (x:=t.changes[i]) (by simp[cG]) cG ?_;refine Gm λb w hS=>?_;refine Cg (qT t.changes[i] 8) λw hS=>?_;refine zy (λh=>hF (cBb hk cG h) (aR hS)) (λh=>?_);refine Gp ?_;refine⟨⟨i+1,rfl,by omega,λj hj jk=>?_,aR hS⟩,by dsimp only;omega⟩;by_cases e:j=i
  ·subst e;exact h
  exact eK j hj (by omega)
 have jZ:i=t.changes.length:=by omega
 have ed:∀j (hj:j<t.changes.length),mW t.changes[j] 8=true:=λj hj=>eK j hj (by omega);clear eK;refine Gp ?_;refine zo hx.sv ?_;refine⟨λvs w=>∃i:Nat,vs=[Γ i]/\i<=t.signals.length/\(∀j (hj:j<t.signals.length),j<i->t.signals[j].size<=40)/\SL W (ui xb x t::.mem H::F) w,
  λvs _=>match vs with|[.int _ i]=>(t.signals.length-i).toNat|_=>0,⟨0,rfl,by omega,λj hj h=>by omega,aR hS⟩,?_⟩
 clear hS;rintro v5 w ⟨i,eY,hi,eK,hS⟩;cases eY;refine cA (λh=>?_) (λh=>?_)
 ·have cG:i<t.signals.length:=by omega
  refine yT hS Xh hx.sv cG (u:=.string t.signals[i]) (by simp[cG]) ?_;refine Gp ?_;refine za (λh=>hF (cBc hk cG (by omega)) (aR hS)) (λh=>?_);refine Gp ?_;refine⟨⟨i+1,rfl,by omega,λj hj jk=>?_,aR hS⟩,by dsimp only;omega⟩;by_cases e:j=i
  ·subst e;omega
  exact eK j hj (by omega)
 rw[cBf hl hk (by omega) ed λj hj=>eK j hj (by omega)];(exact cF hS)
def yo(H:bw)(x:lM)(t:cM)(hx:lL H x t):SP 97 [agg (eV x)] [.mem H] (cE (.bool (eG t)) [.mem H]):=by
 refine Enzz λW F w hS=>?_;apply cUl;delta aI a_ cz ai;refine zu hS λxb w hS=>?_;unfold eV at hS;rw[hx.aw,hx.kind,hx.mark]at hS
 have hF:∀{w:Ζ},eG t=false->SL W (ui xb x t::.mem H::F) w->∃post,cE (.bool (eG t)) [.mem H] (.bool false) post/\SL W (app post F) w:=λh hS=>⟨_,⟨by rw[h],rfl⟩,aR hS⟩;refine Gp ?_;refine za (λh=>hF (V6 (by omega)) hS) (λh1=>?_);refine Gp ?_;refine za (λh=>hF (V6 (by omega)) hS) (λh2=>?_);refine cA (λhk=>?_) (λhk=>?_)
 ·refine Gp ?_;have oN:lL H ⟨t.aw,t.kind,x.cv,x.sv,t.mark⟩ t:=⟨rfl,rfl,rfl,hx.cv,hx.sv⟩;refine Cg (qU H ⟨t.aw,t.kind,x.cv,x.sv,t.mark⟩ t oN (by omega) hk) λw hS=>?_;(exact cF hS)
 refine⟨λvs w=>vs=[.bool (decide (t.kind=2\/t.kind=3))]/\SL W (ui xb x t::.mem H::F) w,?_,?_⟩
 ·refine Gp ?_;refine za (λh=>⟨by rw[zzo (Or.inl h)],hS⟩) (λh=>?_);refine Gp ?_;exact⟨by rw[show decide (t.kind=3)=decide (t.kind=2\/t.kind=3) from yyj.2 ⟨Or.inr,λh'=>by omega⟩],hS⟩
 clear hS;rintro v17 w ⟨hv,hS⟩;cases hv;refine za (λfL=>?_) (λfL=>hF (cBe (by omega)) hS);have hM:=cBd (t:=t) (by omega) fL;have uE:∀{w:Ζ},¬(1<=t.mark/\t.mark<=1099511627776/\t.changes.length=0/\t.signals.length=0)->SL W (ui xb x t::.mem H::F) w->∃post,cE (.bool (eG t)) [.mem H] (.bool false) post/\SL W (app post F) w:=λh hS=>hF (by rw[hM,zz3 h]) hS;refine Gp ?_;refine za (λh3=>?_) (λh3=>uE (by omega) hS);refine Gp ?_;refine za (λh4=>?_) (λh4=>uE (by omega) hS);refine Gp ?_;refine zo hx.cv ?_;refine Gp ?_;refine za (λh5=>?_) (λh5=>uE (by omega) hS);refine Gp ?_;refine zo hx.sv ?_;refine Gp ?_;rw[hM,show decide (1<=t.mark/\t.mark<=1099511627776/\t.changes.length=0/\t.signals.length=0)=decide ((t.signals.length:Int)=0) from yyj.2 ⟨λh=>by omega,λh=>by omega⟩];(exact cF hS)
section
variable (b:Nat) (x1 x2 x3:Int) (t:Ι)
def czb:SP 207 [.slice (some ⟨b,0,none⟩) 3 3] [.pt b [Γ x1,Γ x2,Γ x3] t] (λu post=>post=[kx u [iF x1,iF x2,iF x3]]):=yL b [x1,x2,x3] t (by simp)
end
def B7(H:bw)(t:cM)(u:Ε)(post:Β):Prop:=match vC t with
 | .error e=>u= .tuple #[Θ,Γ e]/\post=[.mem H]
 | .ok b=>∃v,u= .tuple #[v,Γ 0]/\post=[.ob (bF v 5 1 b.length (b.map dd)),.mem H]
def pS(t:cM)(i:Nat):List dK:=[iF t.aw,iF t.kind,iF t.mark,iF t.changes.length]++((t.changes.take i).map pU).flatten
def sB(t:cM)(i:Nat):List dK:=pS t t.changes.length++[iF t.signals.length]++(t.signals.take i).map tF
def bRe{t:cM}{i:Nat}(h:i<t.changes.length):pS t (i+1)=pS t i++pU t.changes[i]:=by
 unfold pS;rw[zze h,zzt,yyy,wwf,ww9,zzk]
def bRh{t:cM}{i:Nat}(h:i<t.signals.length):sB t (i+1)=sB t i++[tF t.signals[i]]:=by
 unfold sB;rw[zze h,zzt,wwf,<- zzk]
def bRf(t:cM):sB t t.signals.length=lj t:=by
 unfold sB pS lj;simp
def Tg(t:cM)(i:Nat):(pS t i).length<=4+4*i:=by
 unfold pS;rw[zza,CV (n:=4) (λ_=>rfl),zzg];simp;omega
def bRg(t:cM)(i:Nat):(sB t i).length<=5+4*t.changes.length+i:=by
 have:=Tg t t.changes.length;unfold sB;rw[zza,zza,zzn,zzg];simp;omega
def Yi(H:bw)(x:lM)(t:cM)(hx:lL H x t):SP 150 [agg (eV x)] [.mem H] (B7 H t):=by
 refine Enzz λW F w hS=>?_;apply cMe;delta aI a_ aW cP ai cR bR;refine zu hS λxb w hS=>?_;refine Gp ?_;refine Cg (yo H x t hx) λw hS=>?_;refine zy (λh=>?_) (λhm=>?_)
 ·exact⟨[.mem H],by unfold B7 vC;rw[zzb (by rw[h];decide)];exact⟨rfl,rfl⟩,aR hS⟩
 have hb:=my hm;unfold eV at hS;rw[hx.aw,hx.kind,hx.mark]at hS
 refine Gp ?_;refine zo hx.cv ?_;refine Gm λb w hS=>?_;refine Cc (Vu b t.aw t.kind t.mark t.changes.length 2) ?_;clear hS;rintro u post rfl w hS;(try simp only[app]at hS);refine Gp ?_
 refine zo hx.cv ?_;have hS:SL W (kx u (pS t 0)::_) _:=hS;refine⟨λvs w=>∃(i:Nat) (u:Ε),vs=[u,Γ i]/\i<=t.changes.length/\SL W (kx u (pS t i)::ui xb x t::.mem H::F) w,
  λvs _=>match vs with|[_,.int _ i]=>(t.changes.length-i).toNat|_=>0,⟨0,_,rfl,by omega,aR hS⟩,?_⟩
 clear hS;rintro u v3 w ⟨i,_,eY,hi,hS⟩;cases eY;have sC:=Tg t i;refine cA (λh=>?_) (λh=>?_)
 ·have cG:i<t.changes.length:=by omega
  have hs:=bRe cG;refine zF hS Xh oF hx.cv (x:=t.changes[i]) (by simp[cG]) cG ?_;generalize t.changes[i]=o at *
  obtain⟨ot,ok,og,ov⟩:=o;refine Gm λb w hS=>?_;unfold dC at hS;refine Cg (ZG og) λw hS=>?_;refine Gm λb w hS=>?_;refine Cc (czb b ot ok (hU og) 2) ?_;clear hS;rintro u2 post rfl w hS;try simp only[app]at hS
  refine yc (L:=pS t i) hS Xr (nG hS Xh) (by simp;omega) λu3 w hS=>?_;refine Gp ?_;refine Cg (yR ov) λw hS=>?_;refine Gm λb w hS=>?_;refine yc (M:=[tF ov]) hS Xr (GX hS Xh) (by simp;omega) λu4 w hS=>?_;refine Gp ?_;refine⟨⟨i+1,_,rfl,by omega,?_⟩,by dsimp only;omega⟩;rw[hs];simp only[zzk]at hS;have hS:SL W (kx _ (pS t i++pU ⟨ot,ok,og,ov⟩)::_) _:=hS;exact aR hS
 have jZ:i=t.changes.length:=by omega
 subst jZ;refine Gp ?_;refine zo hx.sv ?_;refine Gm λb w hS=>?_;refine Cc (Gc b t.signals.length 2) ?_;clear hS;rintro u2 post rfl w hS;try simp only[app]at hS
 refine yc (L:=pS t t.changes.length) hS Xr (nG hS Xh) (by simp;omega) λu3 w hS=>?_;refine Gp ?_;refine zo hx.sv ?_;refine⟨λvs w=>∃(i:Nat) (u:Ε),vs=[u,Γ i]/\i<=t.signals.length/\SL W (kx u (sB t i)::ui xb x t::.mem H::F) w,
  λvs _=>match vs with|[_,.int _ i]=>(t.signals.length-i).toNat|_=>0,⟨0,u3,rfl,by omega,?_⟩,?_⟩
 ·rw[show sB t 0=pS t t.changes.length++[iF t.signals.length] by unfold sB;simp];exact aR hS
 clear hS;rintro u v3 w ⟨i,_,eY,hi,hS⟩;cases eY;have Fo:=bRg t i;refine cA (λh=>?_) (λh=>?_)
 ·have cG:i<t.signals.length:=by omega
  have hs:=bRh cG;refine yT hS Xh hx.sv cG (u:=.string t.signals[i]) (by simp[cG]) ?_;refine Cg (yR t.signals[i]) λw hS=>?_;refine Gm λb w hS=>?_;refine yc (L:=sB t i) (M:=[tF t.signals[i]]) hS Xr (GX hS Xh) (by simp;omega) λu3 w hS=>?_;refine Gp ?_;refine⟨⟨i+1,_,rfl,by omega,?_⟩,by dsimp only;omega⟩;rw[hs];exact aR hS
 have jZ:i=t.signals.length:=by omega
 subst jZ;rw[bRf]at hS Fo
 refine Cc (yG (kx u (lj t)) u (lj t) sf.own (by omega)) ?_;clear hS;rintro r post hq w hS;try simp only[app]at hS
 unfold r_ at hq;unfold B7 vC;rw[zzd hm];cases he:oG (lj t) with
 | error e=>
  rw[he]at hq
  obtain⟨rfl,rfl⟩:=hq;(try simp only[app]at hS);refine Gp ?_
  exact cF hS
 | ok bs=>
  rw[he]at hq
  obtain⟨v,rfl,rfl⟩:=hq;(try simp only[app]at hS);refine Gp ?_
  exact⟨_,⟨v,rfl,rfl⟩,aR hS⟩
def SL.u9{W w:Ζ}{l:Β}{H:bw}{b:Nat}{cs:Ξ}{t:Ι}(h:SL W (.mem H::.pt b cs t::l) w):
  ∃H',H.le H'/\(∀o v,cs[o]?=some v->H'.cell b o=some v)/\SL W (.mem H'::l) w/\∀{W' w':Ζ} {l':Β},SL W' (.mem H'::l') w'->SL W' (.mem H::.pt b cs t::l') w':=by
 obtain⟨a1,a2,a3,k,⟨h1,h2,s,rfl,h3,h4,s',⟨f,hf,rfl⟩,r⟩,m⟩:=h;obtain⟨k',x,y⟩:=s.join s';refine⟨k',λb o e=>?_,λo v e=>?_,⟨a1,a2,a3,k,⟨k',h4,x,rfl,r⟩,m⟩,λ{W' w' l'} h'=>?_⟩
 ·exact y.left b o e
 ·have:k' b=some (.cells cs.toArray t f):=y.right b _ (by simp[bw.one]);simp[bw.cell,this,e]
 obtain⟨c1,c2,c3,q,⟨g1,g2,u,rfl,r'⟩,m'⟩:=h';obtain⟨k2,u1,u2⟩:=u.assoc y;exact⟨c1,c2,c3,q,⟨_,_,u1,rfl,_,_,u2,⟨f,hf,rfl⟩,r'⟩,m'⟩
def bF.u9{W w:Ζ}{l:Β}{H:bw}{v:Ε}{t:Ι}{sz n:Nat}{cells:Ξ}(h:SL W (.mem H::.ob (bF v t sz n cells)::l) w):
  ∃H',H.le H'/\de H' sz v n cells/\SL W (.mem H'::l) w/\∀{W' w':Ζ} {l':Β},SL W' (.mem H'::l') w'->SL W' (.mem H::.ob (bF v t sz n cells)::l') w':=by
 rcases bF.open (h.perm (.swap _ _ _)) with ⟨⟨a,rfl⟩,rfl,rfl,hS⟩|⟨b,cap,rest,rfl,hc,hlen,jD,hS⟩
 ·exact⟨H,bw.le_refl H,⟨by simp,a,0,rfl,zzi _,.inl rfl⟩,hS,λh'=>(bF.ri h').perm (.swap _ _ _)⟩
 obtain⟨H',h1,h2,h3,h4⟩:=SL.u9 (hS.perm (.swap _ _ _));refine⟨H',h1,⟨hlen,_,cap,rfl,hc,.inr ⟨b,0,rfl,λj u hu=>?_⟩⟩,h3,λh'=>?_⟩
 ·rw[yya];refine h2 j u ?_;rw[zzm (zzf.1 hu).1];exact hu
 exact (bF.mk hc hlen jD ((h4 h').perm (.swap _ _ _))).perm (.swap _ _ _)
structure pE{α:Type}(one:dh->α × dh)(n:Nat)(r0:dh)(xs:List α)(k:Nat)(r:dh):Prop where
 eq:kX one n r0=(xs++(kX one k r).1,(kX one k r).2)
 le:xs.length+k<=n
def pE.start{α:Type}(one:dh->α × dh)(n:Nat)(r:dh):pE one n r [] n r:=⟨rfl,by simp⟩
def pE.step{α:Type}{one:dh->α × dh}{n:Nat}{r0:dh}{xs:List α}{k:Nat}{r:dh}(h:pE one n r0 xs (k+1) r):pE one n r0 (xs++[(one r).1]) k (one r).2:=
 ⟨by rw[h.eq];simp[kX],by have:=h.le;rw[zza,yyc];omega⟩
def pE.stop{α:Type}{one:dh->α × dh}{n:Nat}{r0:dh}{xs:List α}{r:dh}(h:pE one n r0 xs 0 r):kX one n r0=(xs,r):=by
 rw[h.eq];simp[kX]
def qc(rp:Nat)(r:dh):SP 183 [Δ rp] [.ob (fp rp r)] (cE (agg (dC (rB r).1)) [.ob (fp rp (rB r).2)]):=by
 refine Enzz λW F w hS=>?_;apply cNa;delta ai cR;refine Gm λb w hS=>?_;refine Cg (zA rp r 8) λw hS=>?_;refine Cg (zR rp _) λw hS=>?_;refine Cg (Zf rp _) λw hS=>?_;refine Cg (yJ rp _) λw hS=>?_;simp only[rB];exact cF hS
def vB{aw kind mark:Int}{cv sv:Ε}(h1:cv.oneCell'=true)(h2:sv.oneCell'=true):∀v∈eV ⟨aw,kind,cv,sv,mark⟩,v.oneCell'=true:=by
 intro v hv;simp only[eV,zz1,xxs,vv1]at hv;rcases hv with rfl|rfl|rfl|rfl|rfl
 ·rfl
 ·rfl
 ·exact h1
 ·exact h2
 rfl
def vm:lM:=⟨0,0,Θ,Θ,0⟩
abbrev HI(b:Nat):Μ:=.pt b [Γ 0,Γ 0,Θ,Θ,Γ 0] 89
def G7(X:Μ)(H:bw)(b:Φ)(u:Ε)(post:Β):Prop:=match kQ b with
 | .error e=>e≠0/\∃H',H.le H'/\u= .tuple #[agg (eV vm),Γ e]/\post=[X,.mem H']
 | .ok t=>∃x H',H.le H'/\u= .tuple #[agg (eV x),Γ 0]/\lL H' x t/\post=[X,.mem H']
def bFo{b:Φ}{e:Int}(h:jM b= .error e):kQ b= .error e:=by unfold kQ;rw[h]
def bFq{b:Φ}{l:List dK}(h:jM b= .ok l)(h2:¬((lH ⟨l,false⟩).2.bad=false/\(lH ⟨l,false⟩).2.l=[]/\eG (lH ⟨l,false⟩).1=true)):kQ b= .error 3:=by
 unfold kQ AR;rw[h];simp only;rw[zzb h2]
def bFp{b:Φ}{l:List dK}(h:jM b= .ok l)(h2:(lH ⟨l,false⟩).2.bad=false/\(lH ⟨l,false⟩).2.l=[]/\eG (lH ⟨l,false⟩).1=true):kQ b= .ok (lH ⟨l,false⟩).1:=by
 unfold kQ AR;rw[h];simp only;rw[zzd h2]
abbrev l8(v:Ε)(l:List d_):Μ:=.ob (bF v 40 4 l.length (l.map dC).flatten)
abbrev mf(v:Ε)(l:Ψ):Μ:=.ob (bF v 9 1 l.length (l.map λs=>[Value.string s]).flatten)
def wH(X:Μ)(H:bw)(b:Φ)(u:Ε)(post:Β):Prop:=match kQ b with
 | .error e=>e≠0/\u= .tuple #[agg (eV vm),Γ e]/\post=[X,.mem H]
 | .ok t=>∃x:lM,u= .tuple #[agg (eV x),Γ 0]/\(x.aw=t.aw/\x.kind=t.kind/\x.mark=t.mark)/\post=[l8 x.cv t.changes,mf x.sv t.signals,X,.mem H]
def GY(l:Ψ):(l.map λs=>[Value.string s]).flatten=l.map Value.string:=by
 induction l with
 | nil=>rfl
 | cons a l ih=>simp[ih]
structure Hi(l:List dK)(aw kind mark:Int)(r3:dh):Prop where
 aw:(lH ⟨l,false⟩).1.aw=aw
 kind:(lH ⟨l,false⟩).1.kind=kind
 mark:(lH ⟨l,false⟩).1.mark=mark
 ch:(lH ⟨l,false⟩).1.changes=(kX rB (dI 16 r3).1.toNat (dI 16 r3).2).1
 sg:∀r4,(kX rB (dI 16 r3).1.toNat (dI 16 r3).2).2=r4->(lH ⟨l,false⟩).1.signals=(kX pC (dI 2 r4).1.toNat (dI 2 r4).2).1/\(lH ⟨l,false⟩).2=(kX pC (dI 2 r4).1.toNat (dI 2 r4).2).2
def Hi.is(l:List dK):Hi l (fE ⟨l,false⟩).1 (dI 3 (fE ⟨l,false⟩).2).1 (fE (dI 3 (fE ⟨l,false⟩).2).2).1 (fE (dI 3 (fE ⟨l,false⟩).2).2).2:=⟨rfl,rfl,rfl,rfl,λr4 h=>by subst h;exact⟨rfl,rfl⟩⟩
def ZQ(X:Μ)(H:bw)(v:Ε)(bs:Φ)(hv:dX X v bs):SP 124 [v] [X,.mem H] (wH X H bs):=by
 refine Enzz λW F w hS=>?_;apply cLq;delta aI aW cP ai cR bR;refine Gb λzb w hS=>?_;refine Cc (yF X v bs hv) ?_;clear hS;rintro r post hq w hS;unfold wG at hq;cases hd:jM bs with
 | error e=>
  rw[hd]at hq
  obtain⟨rfl,rfl⟩:=hq;have he:=Ik hd;(try simp only[app]at hS);refine Gp ?_
  refine za (λ_=>?_) (λh=>absurd he h);refine Gn λw hS=>?_;exact⟨[X,.mem H],by unfold wH;rw[bFo hd];exact⟨he,rfl,rfl⟩,aR hS⟩
 | ok l=>
  rw[hd]at hq
  obtain⟨lv,rfl,rfl⟩:=hq;(try simp only[app]at hS);refine Gp ?_
  refine Χ ?_;refine Cc (Zg lv l) ?_;clear hS;rintro _ post ⟨rp,rfl,rfl⟩ w hS;try simp only[app]at hS
  refine Cc (zR rp ⟨l,false⟩) ?_;clear hS;rintro v1 post ⟨rfl,rfl⟩ w hS;try simp only[app]at hS
  refine Cc (zA rp _ 3) ?_;clear hS;rintro v1 post ⟨rfl,rfl⟩ w hS;try simp only[app]at hS
  refine Cc (zR rp _) ?_;clear hS;rintro v1 post ⟨rfl,rfl⟩ w hS;try simp only[app]at hS
  have hI:=Hi.is l;generalize (fE (dI 3 (fE ⟨l,false⟩).2).2).1=mark at *
  generalize (fE (dI 3 (fE ⟨l,false⟩).2).2).2=r3 at *
  generalize (dI 3 (fE ⟨l,false⟩).2).1=kind at *
  generalize (fE ⟨l,false⟩).1=aw at *
  have nC:=BT (m:=16) (by decide) r3;refine Gp ?_;refine Gb λxb w hS=>?_;have hS:SL W (l8 Θ []::_) _:=bF.nil hS;have hS:SL W (mf Θ []::_) _:=bF.nil hS;refine Cc (zA rp r3 16) ?_;clear hS;rintro v1 post ⟨rfl,rfl⟩ w hS;try simp only[app]at hS
  have mq:=hI.ch;have Bo:=hI.sg;generalize (dI 16 r3).1=n1 at *
  generalize (dI 16 r3).2=r2 at *
  refine⟨λus w=>∃(k:Nat) (jL:List d_) (r:dh) (cv:Ε),us=[Γ k]/\pE rB n1.toNat r2 jL k r/\SL W (l8 cv jL::.ob (fp rp r)::mf Θ []::.pt xb [Γ aw,Γ kind,cv,Θ,Γ mark] 89::HI zb::X::.mem H::F) w,
   λus _=>match us with|[.int _ i]=>i.toNat|_=>0,⟨n1.toNat,[],r2,Θ,by rw[show ((n1.toNat:Nat):Int)=n1 by omega],pE.start _ _ _,aR hS⟩,?_⟩
  clear hS;rintro v8 w ⟨k,jL,r,cv,cT,hM,hS⟩;cases cT;have hle:=hM.le;refine cA (λh=>?_) (λh=>?_)
  ·obtain⟨k,rfl⟩:∃j,k=j+1:=⟨k-1,by omega⟩;have hM:=hM.step;refine Gn λw hS=>?_;refine Cg (qc rp r) λw hS=>?_;refine Gm λb w hS=>?_;refine yz (n:=jL.length) (xs:=jL) (y:=(rB r).1) (enc:=dC) hS Xr Xh oF (λx=>Iq x) rfl (by omega) (by omega) λu w hS=>?_;have h1:=bF.one hS;refine Gn λw hS=>?_;refine⟨⟨k,_,_,u,by rw[show ((k+1:Nat):Int)-1=(k:Int) by omega],hM,?_⟩,by dsimp only;omega⟩;have hS:=hS.rm (x:=(rB r).1);exact aR hS
  obtain rfl:k=0:=by omega
  rw[hM.stop]at mq Bo
  obtain⟨F0,dQ⟩:=Bo r rfl;have xP:=BT (m:=2) (by decide) r;refine Cc (zA rp r 2) ?_;clear hS;rintro v1 post ⟨rfl,rfl⟩ w hS;try simp only[app]at hS
  generalize (dI 2 r).1=n2 at *
  generalize (dI 2 r).2=r5 at *
  refine⟨λus w=>∃(k:Nat) (BS:Ψ) (r:dh) (sv:Ε),us=[Γ k]/\pE pC n2.toNat r5 BS k r/\SL W (mf sv BS::.ob (fp rp r)::l8 cv jL::.pt xb [Γ aw,Γ kind,cv,sv,Γ mark] 89::HI zb::X::.mem H::F) w,
   λus _=>match us with|[.int _ i]=>i.toNat|_=>0,⟨n2.toNat,[],r5,Θ,by rw[show ((n2.toNat:Nat):Int)=n2 by omega],pE.start _ _ _,aR hS⟩,?_⟩
  clear hS;rintro v8 w ⟨k,BS,r,sv,cT,uF,hS⟩;cases cT;have hle:=uF.le;refine cA (λh=>?_) (λh=>?_)
  ·obtain⟨k,rfl⟩:∃j,k=j+1:=⟨k-1,by omega⟩;have uF:=uF.step;refine Gn λw hS=>?_;refine Cg (yJ rp r) λw hS=>?_;refine Gm λb w hS=>?_;refine yz (n:=BS.length) (xs:=BS) (y:=(pC r).1) (enc:=λs=>[Value.string s]) hS Xr Xh (λ_=>rfl) (by simp[Value.oneCell']) rfl (by omega) (by omega) λu w hS=>?_;have h1:=bF.one hS;refine Gn λw hS=>?_;refine⟨⟨k,_,_,u,by rw[show ((k+1:Nat):Int)-1=(k:Int) by omega],uF,?_⟩,by dsimp only;omega⟩;have hS:=hS.rm (x:=(pC r).1);exact aR hS
  obtain rfl:k=0:=by omega
  rw[uF.stop]at F0 dQ
  have kh:=hI.aw;have Uq:=hI.kind;have UA:=hI.mark;have mq:(lH ⟨l,false⟩).1.changes=jL:=mq;have F0:(lH ⟨l,false⟩).1.signals=BS:=F0;have dQ:(lH ⟨l,false⟩).2=r:=dQ;generalize ht:(lH ⟨l,false⟩).1=t at *
  generalize hr:(lH ⟨l,false⟩).2=r' at *
  subst dQ mq F0;have gl:cv.oneCell'=true:=bF.one (hS.perm (fq.perm (c:=l8 cv t.changes) Xr));have ju:sv.oneCell'=true:=bF.one (hS.perm (fq.perm (c:=mf sv t.signals) Xr));refine Cg (Zc rp r') λw hS=>?_;have fC:¬(r'.bad=false/\r'.l=[]/\eG t=true)->∀{w:Ζ},SL W (X::.mem H::F) w->∃post,wH X H bs (.tuple #[agg (eV vm),Γ 3]) post/\SL W (app post F) w:=λh w hS=>⟨[X,.mem H],by unfold wH;rw[bFq hd (by rw[ht,hr];exact h)];exact⟨by decide,rfl,rfl⟩,hS⟩;refine zy (λhb=>?_) (λhb=>?_)
  ·have hb:=yy2 hb;refine Gn λw hS=>?_;exact fC (λh=>hb ⟨h.1,h.2.1⟩) (aR hS)
  have hb:=zzp hb;refine Gp ?_;obtain⟨H1,du,hO,hS,HR⟩:=bF.u9 (SL.cD hS (t:=.mem H::l8 cv t.changes::mf sv t.signals::.ob (fp rp r')::.pt xb [Γ aw,Γ kind,cv,sv,Γ mark] 89::HI zb::X::F) Xi);obtain⟨H2,dF,hN,hS,AJ⟩:=bF.u9 hS;rw[GY]at hN
  have hx:lL H2 ⟨aw,kind,cv,sv,mark⟩ t:=⟨kh.symm,Uq.symm,UA.symm,hO.mono dF,hN⟩;refine Cg (yo H2 ⟨aw,kind,cv,sv,mark⟩ t hx) λw hS=>?_;have hS:=HR (AJ (Has.front (c:=.mem H2) hS Xr));refine zy (λhm=>?_) (λhm=>?_)
  ·refine Gn λw hS=>?_;exact fC (λh=>by rw[h.2.2]at hm;cases hm) (aR hS)
  refine Gp ?_;refine zt (vs:=eV ⟨aw,kind,cv,sv,mark⟩) hS Xu rfl rfl (vB gl ju) λw hS=>?_;refine Gp ?_;exact⟨[l8 cv t.changes,mf sv t.signals,X,.mem H],by unfold wH;rw[bFp hd (by rw[ht,hr];exact⟨hb.1,hb.2,hm⟩),ht];exact⟨⟨aw,kind,cv,sv,mark⟩,rfl,⟨kh.symm,Uq.symm,UA.symm⟩,rfl⟩,aR hS⟩
def QX(X:Μ)(H:bw)(v:Ε)(bs:Φ)(hv:dX X v bs):SP 124 [v] [X,.mem H] (G7 X H bs):=by
 intro W F w hS;refine zB.mono (ZQ X H v bs hv W F w hS) ?_;rintro u w ⟨post,hq,hS⟩;unfold wH at hq;unfold G7;cases hd:kQ bs with
 | error e=>
  rw[hd]at hq
  obtain⟨dO,rfl,rfl⟩:=hq;exact⟨_,⟨dO,H,bw.le_refl H,rfl,rfl⟩,hS⟩
 | ok t=>
  rw[hd]at hq
  obtain⟨x,rfl,⟨e1,e2,e3⟩,rfl⟩:=hq;try simp only[app]at hS
  obtain⟨H1,du,hO,hS⟩:=bF.freeze (SL.cD hS (t:=.mem H::l8 x.cv t.changes::mf x.sv t.signals::X::F) Xi);obtain⟨H2,dF,hN,hS⟩:=bF.freeze hS;rw[GY]at hN
  exact⟨[X,.mem H2],⟨x,H2,bw.le_trans du dF,rfl,⟨e1,e2,e3,hO.mono dF,hN⟩,rfl⟩,aR hS⟩
def YD(H:bw)(v:Ε)(C:List Row)(hC:de H 2 v C.length (C.map eD).flatten)(hn:C.length<=140737488351232):SP 352 [v] [.mem H] (cE (.bool (rN C)) [.mem H]):=by
 refine Enzz λW F w hS=>?_;apply cRh;delta aI a_ cz ai cR;refine zo hC ?_;refine⟨λus w=>∃(i:Nat) (k:Int),us=[Γ k,Γ i]/\i<=C.length/\wv 0 C=wv k (C.drop i)/\SL W (.mem H::F) w,λus _=>match us with|[_,.int _ i]=>(C.length-i).toNat|_=>0,⟨0,0,rfl,by omega,rfl,hS⟩,?_⟩;clear hS;rintro v3 v8 w ⟨i,k,cT,hi,hr,hS⟩;cases cT;refine cA (λh=>?_) (λh=>?_)
 ·have cG:i<C.length:=by omega
  rw[yyq cG,wv]at hr
  refine zF hS Xh jt hC (x:=C[i]) (by simp[cG]) cG ?_;generalize C[i]=r at *
  obtain⟨rk,rv⟩:=r;have hF:∀{w:Ζ} {b:Nat},¬(k<rk/\rk<=1099511627776/\rv.size<=32)->SL W (.pt b [Γ rk,.string rv] 54::.mem H::F) w->∃post,cE (.bool (rN C)) [.mem H] (.bool false) post/\SL W (app post F) w:=λfC hS=>
   ⟨_,⟨by unfold rN;rw[hr,zz3 fC];rfl,rfl⟩,aR hS⟩
  rw[E9];refine Gm λb w hS=>?_;refine za (λh1=>hF (by omega) hS) (λh1=>?_);refine Gp ?_;refine za (λh2=>hF (by omega) hS) (λh2=>?_);refine Gp ?_;refine za (λh3=>hF (by omega) hS) (λh3=>?_);refine Gp ?_;refine⟨⟨i+1,rk,rfl,by omega,?_,aR hS⟩,by dsimp only;omega⟩;rw[hr,zzo (show k<rk/\rk<=1099511627776/\rv.size<=32 by omega)];rfl
 have jZ:i=C.length:=by omega
 subst jZ;rw[vv5]at hr
 refine zo hC ?_;refine Gp ?_;have e:rN C=decide ((C.length:Int)<=1000):=by
  unfold rN;rw[hr];show (true && _)=_;rw[uua,yyj];omega
 rw[e];(exact cF hS)
def vo(H:bw)(v:Ε)(ts:List (List Row)):Prop:=∃vs,de H 1 v ts.length vs/\nR H vs ts
def yV{H:bw}{v:Ε}{ts:List (List Row)}{K:Ε->Prop}(h:vo H v ts)(k:K (Γ ts.length)):zd v K:=by
 obtain⟨vs,h1,_⟩:=h;exact zo h1 k
def qe{W w:Ζ}{l:Β}{H:bw}{v:Ε}{ts:List (List Row)}{j:Nat}{k:IntKind}{K:Ε->Prop}(hS:SL W l w)(hm:Has (.mem H) l)(h:vo H v ts)(hj:j<ts.length)
  (hK:∀u,de H 2 u ts[j].length (ts[j].map eD).flatten->K u):zk 1 v (.int k (j:Int)) λp=>cC p w K:=by
 obtain⟨vs,h1,h2⟩:=h;have hl:=h2.1;have hu:vs[j]?=some (vs[j]'(by omega)):=zzc (by omega);exact yT hS hm h1 hj hu (hK _ (h2.2 j _ _ hu (zzc hj)))
def Zr(H:bw)(v:Ε)(aw:Int)(ts:List (List Row))(hv:vo H v ts)(hn:ts.length<=140737488351232)(hc:∀C∈ts,C.length<=140737488351232):SP 303 [Γ aw,v] [.mem H] (cE (.bool (jo aw ts)) [.mem H]):=by
 refine Enzz λW F w hS=>?_;apply cQh;delta aI cP cz ai;have hF:∀{w:Ζ},¬(0<=aw/\aw<=1099511627776/\1<=ts.length/\ts.length<=8)->SL W (.mem H::F) w->∃post,cE (.bool (jo aw ts)) [.mem H] (.bool false) post/\SL W (app post F) w:=λfC hS=>⟨_,⟨by unfold jo;rw[zz3 fC];rfl,rfl⟩,hS⟩;refine Gp ?_;refine za (λh=>hF (by omega) hS) (λh1=>?_);refine Gp ?_;refine za (λh=>hF (by omega) hS) (λh2=>?_);refine yV hv ?_;refine Gp ?_;refine za (λh=>hF (by omega) hS) (λh3=>?_);refine yV hv ?_;refine Gp ?_;refine za (λh=>hF (by omega) hS) (λh4=>?_);refine yV hv ?_;have hM:jo aw ts=ts.all rN:=by unfold jo;rw[zzo (show 0<=aw/\aw<=1099511627776/\1<=ts.length/\ts.length<=8 by omega)];rfl
 refine⟨λus w=>∃i:Nat,us=[Γ i]/\i<=ts.length/\(∀j (h:j<ts.length),j<i->rN ts[j]=true)/\SL W (.mem H::F) w,λus _=>match us with|[.int _ i]=>(ts.length-i).toNat|_=>0,⟨0,rfl,by omega,λj h hj=>by omega,hS⟩,?_⟩;clear hS;rintro v25 w ⟨i,cT,hi,eK,hS⟩;cases cT;refine cA (λh=>?_) (λh=>?_)
 ·have cG:i<ts.length:=by omega
  refine qe hS Xh hv cG λu hu=>?_;refine Cg (YD H u ts[i] hu (hc _ (zzh cG))) λw hS=>?_;refine zy (λhb=>?_) (λhb=>?_)
  ·refine⟨_,⟨?_,rfl⟩,hS⟩;rw[hM,show ts.all rN=false from tte.2 ⟨_,zzh cG,by rw[hb];decide⟩]
  refine Gp ?_;refine⟨⟨i+1,rfl,by omega,λj hj jk=>?_,hS⟩,by dsimp only;omega⟩;by_cases e:j=i
  ·subst e;exact hb
  exact eK j hj (by omega)
 refine⟨_,⟨?_,rfl⟩,hS⟩;rw[hM,show ts.all rN=true from zz5.2 λC hC=>by
  obtain⟨j,hj,rfl⟩:=yyl hC;exact eK j hj (by omega)]
def sA(aw:Int)(ts:List (List Row))(i:Nat):List dK:=[iF aw,iF ts.length]++((ts.take i).map oH).flatten
def tn(aw:Int)(ts:List (List Row))(i:Nat)(C:List Row)(j:Nat):List dK:=sA aw ts i++(iF C.length::((C.take j).map tq).flatten)
def bRb{aw:Int}{ts:List (List Row)}{i:Nat}(h:i<ts.length):sA aw ts (i+1)=tn aw ts i ts[i] ts[i].length:=by
 unfold sA tn sA oH;rw[zze h,zzt,yyy,wwf,ww9,zz0,zzk]
def bRd{aw:Int}{ts:List (List Row)}{i:Nat}{C:List Row}{j:Nat}(h:j<C.length):tn aw ts i C (j+1)=tn aw ts i C j++[iF C[j].key]++[tF C[j].val]:=by
 unfold tn;rw[zze h,zzt,yyy,wwf,ww9];simp[tq]
def bRa(aw:Int)(ts:List (List Row)):sA aw ts ts.length=nk aw ts:=by unfold sA nk;rw[zz0]
def Tf{aw:Int}{ts:List (List Row)}(h:∀C∈ts,C.length<=1000)(i:Nat):(sA aw ts i).length<=2+ts.length*2001:=by
 have k:=uy (f:=oH) (k:=2001) (ts.take i) λC hC=>by rw[Tj];have:=h C (yys hC);omega
 have:(ts.take i).length*2001<=ts.length*2001:=yyv _ (by rw[zzg];omega);unfold sA;rw[zza];simp only[zzj,yym];omega
def bRc{aw:Int}{ts:List (List Row)}(h:∀C∈ts,C.length<=1000)(i:Nat){C:List Row}(hC:C.length<=1000)(j:Nat):(tn aw ts i C j).length<=2003+ts.length*2001:=by
 have h1:=Tf (aw:=aw) h i;unfold tn;rw[zza,zzj,AZ (f:=tq) (k:=2) (λ_=>rfl),zzg];omega
def El(H:bw)(aw:Int)(ts:List (List Row))(u:Ε)(post:Β):Prop:=match E8 aw ts with
 | .error e=>u= .tuple #[Θ,Γ e]/\post=[.mem H]
 | .ok b=>∃v,u= .tuple #[v,Γ 0]/\post=[.ob (bF v 5 1 b.length (b.map dd)),.mem H]
def qR(H:bw)(v:Ε)(aw:Int)(ts:List (List Row))(hv:vo H v ts)(hn:ts.length<=140737488351232)(hc:∀C∈ts,C.length<=140737488351232):SP 241 [Γ aw,v] [.mem H] (El H aw ts):=by
 refine Enzz λW F w hS=>?_;apply cO0;delta aI a_ cP ai cR bR;refine Cg (Zr H v aw ts hv hn hc) λw hS=>?_;refine zy (λh=>?_) (λhm=>?_)
 ·exact⟨[.mem H],by unfold El E8;rw[zzb (by rw[h];decide)];exact⟨rfl,rfl⟩,aR hS⟩
 obtain⟨hb,hT⟩:=sS.1 hm;have uG:∀C∈ts,C.length<=1000:=λC hC=>(hT C hC).len;have h8:ts.length*2001<=8*2001:=yyv _ (by omega);refine yV hv ?_;refine Gm λb w hS=>?_;refine Cc (Vt b aw ts.length 2) ?_;clear hS;rintro u post rfl w hS;try simp only[app]at hS
 refine yV hv ?_;have hS:SL W (kx u (sA aw ts 0)::_) _:=hS;refine⟨λus w=>∃(i:Nat) (u:Ε),us=[u,Γ i]/\i<=ts.length/\SL W (kx u (sA aw ts i)::.mem H::F) w,λus _=>match us with|[_,.int _ i]=>(ts.length-i).toNat|_=>0,⟨0,_,rfl,by omega,aR hS⟩,?_⟩;clear hS;rintro u v24 w ⟨i,_,cT,hi,hS⟩;cases cT;have sC:=Tf (aw:=aw) uG i;refine cA (λh=>?_) (λh=>?_)
 ·have cG:i<ts.length:=by omega
  have hs:=bRb (aw:=aw) cG;have Fp:=uG _ (zzh cG);refine qe hS Xh hv cG λcv sG=>?_;generalize ts[i]=C at *
  refine zo sG ?_;refine Gm λb w hS=>?_;refine Cc (Gc b C.length 2) ?_;clear hS;rintro u2 post rfl w hS;try simp only[app]at hS
  refine yc (L:=sA aw ts i) hS Xr (nG hS Xh) (by simp;omega) λu3 w hS=>?_;refine zo sG ?_;have hS:SL W (kx u3 (tn aw ts i C 0)::_) _:=hS;refine⟨λus w=>∃(j:Nat) (u:Ε),us=[u,Γ j]/\j<=C.length/\SL W (kx u (tn aw ts i C j)::.mem H::F) w,λus _=>match us with|[_,.int _ i]=>(C.length-i).toNat|_=>0,⟨0,_,rfl,by omega,aR hS⟩,?_⟩;clear hS;rintro u v36 w ⟨j,_,cT,hj,hS⟩;cases cT;have Fo:=bRc (aw:=aw) uG i Fp j;refine cA (λh=>?_) (λh=>?_)
  ·have gW:j<C.length:=by omega
   have hs2:=bRd (aw:=aw) (ts:=ts) (i:=i) gW;refine zF hS Xh jt sG (x:=C[j]) (by simp[gW]) gW ?_;generalize C[j]=r at *
   obtain⟨rk,rv⟩:=r;rw[E9];refine Gm λb w hS=>?_;refine Gm λb w hS=>?_;refine Cc (Gc b rk 2) ?_;clear hS;rintro u4 post rfl w hS;try simp only[app]at hS
   refine yc (L:=tn aw ts i C j) hS Xr (nG hS Xh) (by simp;omega) λu5 w hS=>?_;refine Gp ?_;refine Cg (yR rv) λw hS=>?_;refine Gm λb w hS=>?_;refine yc (M:=[tF rv]) hS Xr (GX hS Xh) (by simp;omega) λu6 w hS=>?_;refine Gp ?_;refine⟨⟨j+1,_,rfl,by omega,?_⟩,by dsimp only;omega⟩;rw[hs2];exact aR hS
  obtain rfl:j=C.length:=by omega
  refine Gp ?_;refine⟨⟨i+1,_,rfl,by omega,?_⟩,by dsimp only;omega⟩;rw[hs];exact hS
 obtain rfl:i=ts.length:=by omega
 rw[bRa]at hS sC
 refine Cc (yG (kx u (nk aw ts)) u (nk aw ts) sf.own (by omega)) ?_;clear hS;rintro r post hq w hS;try simp only[app]at hS
 have he:=(Vk hm).1;have hl:=By hm;unfold r_ at hq;rw[he]at hq
 obtain⟨bv,rfl,rfl⟩:=hq;(try simp only[app]at hS);refine Gp ?_
 refine Χ ?_;refine Cc (Yj _ bv (jw aw ts) dX.own (by omega)) ?_;clear hS;rintro r post hq w hS;try simp only[app]at hS
 unfold s7 at hq;rw[zzb (by omega)]at hq
 obtain⟨ov,rfl,rfl⟩:=hq;(try simp only[app]at hS);refine Gp ?_
 exact⟨_,by unfold El E8;rw[zzd hm];exact⟨ov,rfl,rfl⟩,aR hS⟩
def cJh(r:dh):rW r=jd wx (dI 1000 r).1.toNat (dI 1000 r).2:=rfl
def QW(rp:Nat)(r:dh):SP 321 [Δ rp] [.ob (fp rp r)] (λv post=>(rW r).1.length<=1000/\post=[fJ v (rW r).1,.ob (fp rp (rW r).2)]):=by
 refine Enzz λW F w hS=>?_;apply cQt;delta aI ai cR bR;rw[cJh];have nC:=BT (m:=1000) (by decide) r;refine Cc (zA rp r 1000) ?_;clear hS;rintro v1 post ⟨rfl,rfl⟩ w hS;try simp only[app]at hS
 generalize (dI 1000 r).1=n1 at *
 generalize (dI 1000 r).2=r2 at *
 have hS:SL W (fJ Θ []::_) _:=bF.nil hS;refine⟨λus w=>∃(k:Nat) (rs:List Row) (r:dh) (rv:Ε),us=[rv,Γ k]/\pH wx n1.toNat r2 rs k r/\SL W (fJ rv rs::.ob (fp rp r)::F) w,
  λus _=>match us with|[_,.int _ i]=>i.toNat|_=>0,⟨n1.toNat,[],r2,Θ,by rw[show ((n1.toNat:Nat):Int)=n1 by omega],pH.start _ _ _,aR hS⟩,?_⟩
 clear hS;rintro v3 v4 w ⟨k,rs,r,rv,cT,hM,hS⟩;cases cT;have hle:=hM.le;refine cA (λh=>?_) (λh=>?_)
 ·obtain⟨k,rfl⟩:∃j,k=j+1:=⟨k-1,by omega⟩;refine Cg (Zd rp r) λw hS=>?_;refine zy (λhb=>?_) (λhb=>?_)
  ·have hM:=hM.step hb;refine Cc (zR rp r) ?_;clear hS;rintro v1 post ⟨rfl,rfl⟩ w hS;try simp only[app]at hS
   refine Cg (yJ rp _) λw hS=>?_;refine Gm λb w hS=>?_;refine yz (n:=rs.length) (xs:=rs) (y:=(wx r).1) (enc:=eD) hS Xr Xh jt (λx=>vz x) rfl (by omega) (by omega) λu w hS=>?_;refine Gp ?_;refine⟨⟨k,_,_,u,by rw[show ((k+1:Nat):Int)-1=(k:Int) by omega],hM,?_⟩,by dsimp only;omega⟩;have hS:=hS.rm (x:=(wx r).1);have hS:SL W (fJ u (rs++[(wx r).1])::_::.ob (fp rp (wx r).2)::F) _:=hS;exact aR hS
  rw[hM.stop (.inr hb)];exact⟨_,⟨by show rs.length<=1000;omega,rfl⟩,aR hS⟩
 rw[hM.stop (.inl (by omega))];exact⟨_,⟨by show rs.length<=1000;omega,rfl⟩,aR hS⟩
def nR.nil(H:bw):nR H [] []:=⟨rfl,λi v C h1 h2=>by simp at h1⟩
def nR.snoc{H:bw}{vs:Ξ}{ts:List (List Row)}(h:nR H vs ts){v:Ε}{C:List Row}(hv:de H 2 v C.length (C.map eD).flatten):nR H (vs++[v]) (ts++[C]):=by
 have hl:=h.1;refine⟨by rw[zza,zza,hl];rfl,λi u D h1 h2=>?_⟩;rcases xx6 i vs.length with hi|hi
 ·rw[zzm hi]at h1
  rw[zzm (by omega)]at h2
  exact h.2 i u D h1 h2
 rw[yyb hi]at h1
 rw[yyb (by omega)]at h2
 obtain⟨e,rfl⟩:i-vs.length=0/\v=u:=by
  cases hk:i-vs.length with
  | zero=>rw[hk]at h1;exact⟨rfl,by simpa using h1⟩
  | succ n=>rw[hk]at h1;simp at h1
 rw[show i-ts.length=0 by omega]at h2
 obtain rfl:C=D:=by simpa using h2
 exact hv
def B4(X:Μ)(H:bw)(b:Φ)(u:Ε)(post:Β):Prop:=match kC b with
 | none=>u= .tuple #[Γ 0,Θ,Γ 3]/\∃H',H.le H'/\post=[X,.mem H']
 | some x=>∃v H',H.le H'/\vo H' v x.2/\u= .tuple #[Γ x.1,v,Γ 0]/\post=[X,.mem H']
def Vl{l:List dK}(h:¬((mV ⟨l,false⟩).2.bad=false/\(mV ⟨l,false⟩).2.l=[]/\jo (mV ⟨l,false⟩).1.1 (mV ⟨l,false⟩).1.2=true)):u0 l=none:=by
 unfold u0;simp only;rw[zzb h]
def cx6{l:List dK}(h:(mV ⟨l,false⟩).2.bad=false/\(mV ⟨l,false⟩).2.l=[]/\jo (mV ⟨l,false⟩).1.1 (mV ⟨l,false⟩).1.2=true):u0 l=some (mV ⟨l,false⟩).1:=by
 unfold u0;simp only;rw[zzd h]
structure G'(l:List dK)(aw:Int)(r1:dh):Prop where
 aw:(mV ⟨l,false⟩).1.1=aw
 ts:(mV ⟨l,false⟩).1.2=(kX rW (dI 8 r1).1.toNat (dI 8 r1).2).1
 rd:(mV ⟨l,false⟩).2=(kX rW (dI 8 r1).1.toNat (dI 8 r1).2).2
def G'.is(l:List dK):G' l (fE ⟨l,false⟩).1 (fE ⟨l,false⟩).2:=⟨rfl,rfl,rfl⟩
def qQ(X:Μ)(H:bw)(v:Ε)(bs:Φ)(hv:dX X v bs)(hN:bs.length<=140737488355328):SP 267 [v] [X,.mem H] (B4 X H bs):=by
 refine Enzz λW F w hS=>?_;apply cPf;delta aI cP ai bR;have fC:kC bs=none->∀{w:Ζ} {H':bw},H.le H'->SL W (X::.mem H'::F) w->∃post,B4 X H bs (.tuple #[Γ 0,Θ,Γ 3]) post/\SL W (app post F) w:=λh w H' hh hS=>⟨[X,.mem H'],by unfold B4;rw[h];exact⟨rfl,H',hh,rfl⟩,hS⟩;refine Cc (Y3 X v bs hv hN) ?_;clear hS;rintro r post hq w hS;unfold uh at hq;cases ht:gZ bs with
 | error e=>
  rw[ht]at hq
  obtain⟨rfl,rfl⟩:=hq;have hd:kC bs=none:=by unfold kC;rw[ht]
  have he:e≠0:=by have:=aih ht;omega
  (try simp only[app]at hS);refine Gp ?_
  exact za (λ_=>fC hd (bw.le_refl H) (aR hS)) (λh=>absurd he h)
 | ok pn=>
  obtain⟨p,n⟩:=pn;rw[ht]at hq
  obtain⟨pv,rfl,rfl⟩:=hq;(try simp only[app]at hS);refine Gp ?_
  refine Χ ?_;refine yq hS Xh hv ?_;refine cA (λh=>?_) (λh=>?_)
  ·have hd:kC bs=none:=by unfold kC;rw[ht];simp only;rw[zzb (by omega)]
   exact fC hd (bw.le_refl H) (aR hS)
  have FW:n=bs.length:=by omega
  refine Cc (yF _ pv p dX.own) ?_;clear hS;rintro r post hq w hS;unfold wG at hq;cases hd:jM p with
  | error e=>
   rw[hd]at hq
   obtain⟨rfl,rfl⟩:=hq;have he:=Ik hd;have hd:kC bs=none:=by unfold kC;rw[ht];simp only;rw[zzd FW,hd]
   (try simp only[app]at hS);refine Gp ?_
   exact za (λ_=>fC hd (bw.le_refl H) (aR hS)) (λh=>absurd he h)
  | ok l=>
   rw[hd]at hq
   obtain⟨lv,rfl,rfl⟩:=hq;have hI:=SH ht FW hd;(try simp only[app]at hS);refine Gp ?_
   refine Χ ?_;refine Cc (Zg lv l) ?_;clear hS;rintro _ post ⟨rp,rfl,rfl⟩ w hS;try simp only[app]at hS
   refine Cc (zR rp ⟨l,false⟩) ?_;clear hS;rintro v1 post ⟨rfl,rfl⟩ w hS;try simp only[app]at hS
   have hR:=G'.is l;generalize (fE ⟨l,false⟩).1=aw at *
   generalize (fE ⟨l,false⟩).2=r1 at *
   have nC:=BT (m:=8) (by decide) r1;refine Cc (zA rp r1 8) ?_;clear hS;rintro v1 post ⟨rfl,rfl⟩ w hS;try simp only[app]at hS
   have gR:=hR.ts;have dQ:=hR.rd;generalize (dI 8 r1).1=n1 at *
   generalize (dI 8 r1).2=r2 at *
   have hS:SL W (.ob (bF Θ 55 1 ([]:List (List Row)).length [])::_) _:=bF.nil hS;refine⟨λus w=>∃(k:Nat) (ts:List (List Row)) (r:dh) (tv:Ε) (vs:Ξ) (H':bw),us=[tv,Γ k]/\pE rW n1.toNat r2 ts k r/\(∀C∈ts,C.length<=1000)/\H.le H'/\nR H' vs ts/\SL W (.ob (bF tv 55 1 ts.length vs)::.ob (fp rp r)::X::.mem H'::F) w,
    λus _=>match us with|[_,.int _ i]=>i.toNat|_=>0,⟨n1.toNat,[],r2,Θ,[],H,by rw[show ((n1.toNat:Nat):Int)=n1 by omega],pE.start _ _ _,by simp,bw.le_refl H,nR.nil H,aR hS⟩,?_⟩
   clear hS;rintro tv v12 w ⟨k,ts,r,_,vs,H',cT,hM,Fp,hh,pY,hS⟩;cases cT;have hle:=hM.le;refine cA (λh=>?_) (λh=>?_)
   ·obtain⟨k,rfl⟩:∃j,k=j+1:=⟨k-1,by omega⟩;have hM:=hM.step;refine Cc (QW rp r) ?_;clear hS;rintro rv post ⟨hl,rfl⟩ w hS;try simp only[app]at hS
    obtain⟨H2,dF,hO,hS⟩:=zw (H:=H') (v:=rv) hS Xp;have gl:=hO.one;refine zM hS (Tn gl) λb w hS=>?_;refine zJ (n:=ts.length) (m:=1) hS Xr (jR (cs:=[rv]) hS Xh rfl) rfl rfl (by simpa using gl) (by omega) (by omega) ?_;clear hS;intro u w hS;refine Gp ?_;refine⟨⟨k,_,_,u,vs++[rv],H2,by rw[show ((k+1:Nat):Int)-1=(k:Int) by omega],hM,λC hC=>?_,bw.le_trans hh dF,(pY.mono dF).snoc hO,?_⟩,by dsimp only;omega⟩
    ·rcases zz6.1 hC with hC|hC
     ·exact Fp C hC
     rw[zz8.1 hC];exact hl
    have hS:=hS.rm (x:=(rW r).1);exact aR hS
   obtain rfl:k=0:=by omega
   rw[hM.stop]at gR dQ
   have gR:(mV ⟨l,false⟩).1.2=ts:=gR;have dQ:(mV ⟨l,false⟩).2=r:=dQ;have kh:=hR.aw;obtain⟨H2,dF,hO,hS⟩:=zw (H:=H') (v:=tv) hS Xp;have fu:=bw.le_trans hh dF;have hT:vo H2 tv ts:=⟨vs,hO,pY.mono dF⟩;refine Cg (Zc rp r) λw hS=>?_;refine zy (λhb=>?_) (λhb=>?_)
   ·have hb:=yy2 hb;exact fC (by rw[hI];exact Vl λh=>hb ⟨by rw[<- dQ];exact h.1,by rw[<- dQ];exact h.2.1⟩) fu (aR hS)
   have hb:=zzp hb;refine Cg (Zr H2 tv aw ts hT (by omega) (λC hC=>by have:=Fp C hC;omega)) λw hS=>?_;refine zy (λhm=>?_) (λhm=>?_)
   ·exact fC (by rw[hI];exact Vl λh=>by rw[kh,gR,hm]at h;cases h.2.2) fu (aR hS)
   skip
   have he:=cx6 (l:=l) ⟨by rw[dQ];exact hb.1,by rw[dQ];exact hb.2,by rw[kh,gR];exact hm⟩;refine⟨[X,.mem H2],?_,aR hS⟩;unfold B4;rw[hI,he];simp only;rw[kh,gR];exact⟨tv,H2,fu,hT,rfl,rfl⟩
abbrev mE(tp dp lp:Nat)(eh image:Int):Ξ:=[cH tp,cH dp,cH lp,Γ eh,Γ image]
def dc(sp tp dp lp:Nat)(k:cW):zC:=zH True [.pt sp (mE tp dp lp k.eh k.image) 133,.ob (dV tp k.ts),.ob (dx lp dp k.g)]
section
variable {W w:Ζ} {l F:Β} {sp tp dp lp:Nat}
def dc.iff{k:cW}:SL W (.ob (dc sp tp dp lp k)::l) w↔SL W (.pt sp (mE tp dp lp k.eh k.image) 133::.ob (dV tp k.ts)::.ob (dx lp dp k.g)::l) w:=by
 unfold dc;simp only[SL.fact,uuu,zzv,zzq]
def dc.put(k:cW)(hS:SL W l w)(p:gE [.pt sp (mE tp dp lp k.eh k.image) 133,.ob (dV tp k.ts),.ob (dx lp dp k.g)] l F):SL W (.ob (dc sp tp dp lp k)::F) w:=dc.iff.2 (hS.pick p)
end
def dc.eX{W w:Ζ}{l F:Β}{sp tp dp lp:Nat}{g:da}{d:DS}{ts:iM}{eh image:Int}(hS:SL W l w)(p:gE [.pt sp (mE tp dp lp eh image) 133,.ob (dV tp ts),.ob (dx lp dp g)] l F):SL W (.ob (dc sp tp dp lp ⟨g,d,ts,eh,image⟩)::F) w:=dc.iff.2 (hS.pick p)
structure jH(k:cW)(N:Nat):Prop where
 g:ij k.g N
 d:k.d.Ok N
 rows:∀C∈k.ts,nS C
 len:∀C∈k.ts,C.length<=1000
 n1:1<=k.ts.length
 n8:k.ts.length<=8
section
variable (sp tp dp lp:Nat) (k:cW) {N:Nat} (hg:ij k.g N) (hN:N<=1000000000)
include hg hN
def zI:SP 57 [cH sp] [.ob (dc sp tp dp lp k)] (cE (Γ (cO k.g.bI)) [.ob (dc sp tp dp lp k)]):=by
 refine Enzz λW F w hS=>?_;apply cTg;delta bW b_;have hS:=dc.iff.1 hS;refine Gp ?_;refine Cg (Yb lp dp k.g hg.ok (by omega)) λw hS=>?_;exact⟨_,⟨rfl,rfl⟩,SL.cD (dc.put k hS Xp) Xi⟩
def ZI:SP 58 [cH sp] [.ob (dc sp tp dp lp k)] (cE (Γ (fk k.g.bI)) [.ob (dc sp tp dp lp k)]):=by
 refine Enzz λW F w hS=>?_;apply cTh;delta bW b_;have hS:=dc.iff.1 hS;refine Gp ?_;refine Cg (ZD lp dp k.g hg.ok (by omega)) λw hS=>?_;exact⟨_,⟨rfl,rfl⟩,SL.cD (dc.put k hS Xp) Xi⟩
def Cj(sp tp dp lp:Nat)(k:cW)(H:bw)(aw:Int)(r:Ε)(post:Β):Prop:=match k.gN aw with
 | .error e=>e≠0/\∃H',H.le H'/\r= .tuple #[agg (eV vm),Γ e]/\post=[.ob (dc sp tp dp lp k),.mem H']
 | .ok t=>∃x H',H.le H'/\r= .tuple #[agg (eV x),Γ 0]/\lL H' x t/\post=[.ob (dc sp tp dp lp k),.mem H']
def Ax(sp tp dp lp:Nat)(k:cW)(H:bw)(aw:Int)(r:Ε)(post:Β):Prop:=match k.gN aw with
 | .error e=>e≠0/\r= .tuple #[agg (eV vm),Γ e]/\post=[.ob (dc sp tp dp lp k),.mem H]
 | .ok t=>∃x:lM,r= .tuple #[agg (eV x),Γ 0]/\(x.aw=t.aw/\x.kind=t.kind/\x.mark=t.mark)/\post=[l8 x.cv t.changes,mf x.sv t.signals,.ob (dc sp tp dp lp k),.mem H]
def ZU(H:bw)(aw:Int)(hl : -9000000000000000000<=aw/\aw<=9000000000000000000):SP 54 [cH sp,Γ aw] [.ob (dc sp tp dp lp k),.mem H] (Ax sp tp dp lp k H aw):=by
 refine Enzz λW F w hS=>?_;apply cTd;delta aI bW b_ ai bR;refine Gb λzb w hS=>?_;have hS:=dc.iff.1 (SL.cD hS (t:=.ob (dc sp tp dp lp k)::.pt zb [Γ 0,Γ 0,Θ,Θ,Γ 0] 89::.mem H::F) Xi);refine Gp ?_;refine Cc (Yl lp dp k.g hg.ok (by omega) aw hl) ?_;clear hS;rintro r post hq w hS;unfold Eu at hq;cases hr:mZ k.g.bI aw with
 | none=>
  rw[hr]at hq
  obtain⟨rfl,rfl⟩:=hq;have he:k.gN aw= .error 5:=by unfold cW.gN;rw[hr]
  try simp only[app]at hS
  have hS:=dc.put k hS Xp;refine Gp ?_;refine Υ ?_;refine Gn λw hS=>?_;exact⟨[.ob (dc sp tp dp lp k),.mem H],by unfold Ax;rw[he];exact⟨by decide,rfl,rfl⟩,aR hS⟩
 | some bs=>
  rw[hr]at hq
  obtain⟨u,rfl,rfl⟩:=hq;have he:k.gN aw=kQ bs:=by unfold cW.gN;rw[hr]
  try simp only[app]at hS
  have hS:=dc.put k hS Xp;refine Gp ?_;refine Χ ?_;refine Cc (ZQ (.ob (bF u 5 1 bs.length (bs.map dd))) H u bs dX.own) ?_;clear hS;rintro r post hq w hS;unfold wH at hq;cases hd:kQ bs with
  | error e=>
   rw[hd]at hq
   obtain⟨dO,rfl,rfl⟩:=hq;try simp only[app]at hS
   unfold eV vm;refine Gn λw hS=>?_;refine⟨[.ob (dc sp tp dp lp k),.mem H],?_,aR hS⟩;unfold Ax;rw[he,hd];exact⟨dO,rfl,rfl⟩
  | ok t=>
   rw[hd]at hq
   obtain⟨x,rfl,hx,rfl⟩:=hq;try simp only[app]at hS
   have gl:x.cv.oneCell'=true:=bF.one (hS.perm (fq.perm (c:=l8 x.cv t.changes) Xr));have ju:x.sv.oneCell'=true:=bF.one (hS.perm (fq.perm (c:=mf x.sv t.signals) Xr));refine Gp ?_;refine zt (vs:=eV x) hS Xu rfl rfl (vB (aw:=x.aw) (kind:=x.kind) (mark:=x.mark) gl ju) λw hS=>?_;refine zr hS Xh rfl ?_;refine⟨[l8 x.cv t.changes,mf x.sv t.signals,.ob (dc sp tp dp lp k),.mem H],?_,aR hS⟩;unfold Ax;rw[he,hd];exact⟨x,rfl,hx,rfl⟩
def Zj(H:bw)(aw:Int)(hl : -9000000000000000000<=aw/\aw<=9000000000000000000):SP 54 [cH sp,Γ aw] [.ob (dc sp tp dp lp k),.mem H] (Cj sp tp dp lp k H aw):=by
 intro W F w hS;refine zB.mono (ZU sp tp dp lp k hg hN H aw hl W F w hS) ?_;rintro u w ⟨post,hq,hS⟩;unfold Ax at hq;unfold Cj;cases hd:k.gN aw with
 | error e=>
  rw[hd]at hq
  obtain⟨dO,rfl,rfl⟩:=hq;exact⟨_,⟨dO,H,bw.le_refl H,rfl,rfl⟩,hS⟩
 | ok t=>
  rw[hd]at hq
  obtain⟨x,rfl,⟨e1,e2,e3⟩,rfl⟩:=hq;try simp only[app]at hS
  obtain⟨H1,du,hO,hS⟩:=bF.freeze (SL.cD hS (t:=.mem H::l8 x.cv t.changes::mf x.sv t.signals::.ob (dc sp tp dp lp k)::F) Xi);obtain⟨H2,dF,hN,hS⟩:=bF.freeze hS;rw[GY]at hN
  exact⟨[.ob (dc sp tp dp lp k),.mem H2],⟨x,H2,bw.le_trans du dF,rfl,⟨e1,e2,e3,hO.mono dF,hN⟩,rfl⟩,aR hS⟩
end
section
variable (sp tp dp lp:Nat) (k:cW)
def q6(t key n:Int)(hn:∀C∈k.ts,C.length<=1000000)(hs:∀C∈k.ts,gi C)(h1 : -1000000<=n)(h2:n<=9000000000000000000):SP 160 [cH sp,Γ t,Γ key,Γ n] [.ob (dc sp tp dp lp k)] (λu post=>post=[fJ u (k.wY t key n),.ob (dc sp tp dp lp k)]):=by
 refine Enzz λW F w hS=>?_;apply cMo;delta bW;have hS:=dc.iff.1 hS;refine Gp ?_;refine Cc (q9 tp k.ts t key n hn hs h1 h2) ?_;clear hS;rintro u post rfl w hS;try simp only[app]at hS
 exact⟨_,rfl,SL.cD (t:=fJ u (oA (gv k.ts t) key n)::.ob (dc sp tp dp lp k)::F) (dc.put k hS Xp) Xi⟩
end
def Z3(H:bw)(v:Ε)(l:List d_)(n:Int)(hv:de H 4 v l.length (l.map dC).flatten)(hl:l.length<=140737488351232):SP 98 [v,Γ n] [.mem H] (cE (.bool (decide (∀c∈l,c.table<n))) [.mem H]):=by
 refine Enzz λW F w hS=>?_;apply cUm;delta aI a_ cz ai cR;refine zo hv ?_;refine⟨λus w=>∃i:Nat,us=[Γ i]/\i<=l.length/\(∀j (h:j<l.length),j<i->l[j].table<n)/\SL W (.mem H::F) w,λus _=>match us with|[.int _ i]=>(l.length-i).toNat|_=>0,⟨0,rfl,by omega,λj h hj=>by omega,hS⟩,?_⟩;clear hS;rintro v9 w ⟨i,cT,hi,eK,hS⟩;cases cT;refine cA (λh=>?_) (λh=>?_)
 ·have cG:i<l.length:=by omega
  refine zF hS Xh oF hv (x:=l[i]) (by simp[cG]) cG ?_;have hf:¬l[i].table<n->decide (∀c∈l,c.table<n)=false:=λh=>zz3 λh2=>h (h2 _ (zzh cG));have I0:l[i].table<n->∀j (h:j<l.length),j<i+1->l[j].table<n:=λh j hj jk=>by
   by_cases e:j=i
   ·subst e;exact h
   exact eK j hj (by omega)
  clear eK;generalize l[i]=c at *
  obtain⟨ct,ck,cg,cv⟩:=c;rw[S9];refine Gm λb w hS=>?_;refine za (λhb=>?_) (λhb=>?_)
  ·rw[hf (by show ¬ct<n;omega)];(exact cF hS)
  refine Gp ?_;refine⟨⟨i+1,rfl,by omega,I0 (by show ct<n;omega),aR hS⟩,by dsimp only;omega⟩
 rw[show decide (∀c∈l,c.table<n)=true from zzo λc hc=>by
  obtain⟨j,hj,rfl⟩:=yyl hc;exact eK j hj (by omega)]
 (exact cF hS)
def V7{t:cM}(h:eG t=true){n:Int}(h1:1<=n)(h2:n<=1099511627776):eG {t with aw:=n}=true:=by
 obtain⟨_,h3⟩:=wg.1 h;exact wg.2 ⟨⟨h1,h2⟩,h3⟩
abbrev Ap(sp tp dp lp:Nat)(H:bw)(y:cW × (Int × Int)):Ε->Β->Prop:=cE (.tuple #[Γ y.2.1,Γ y.2.2]) [.ob (dc sp tp dp lp y.1),.ob (cw dp y.1.d),.mem H]
def Y0(sp tp dp lp:Nat)(k:cW)(H:bw)(x:lM)(t:cM)(hx:lL H x t)(hm:eG t=true){N:Nat}(hk:jH k N)(hN:N<=1000000000)(ed:k.d.ops<=90000):
  SP 100 [cH sp,agg (eV x)] [.ob (dc sp tp dp lp k),.ob (cw dp k.d),.mem H] (Ap sp tp dp lp H (k.gK t)):=by
 refine Enzz λW F w hS=>?_;apply cK3;delta aI bW a_ cP ai;have hg:=hk.g;obtain⟨ht1,F1,ht3,ht4,ht5,U1,ht7⟩:=my hm;have hd0:=sH hg.ok.bI;have Jt:∀C∈k.ts,C.length<=1000000:=λC hC=>by have:=hk.len C hC;omega
 have gg:∀C∈k.ts,gi C:=λC hC=>(hk.rows C hC).sorted;have h8:=hk.n8;refine zu hS λxb w hS=>?_;unfold eV at hS;rw[hx.aw,hx.kind,hx.mark]at hS
 have hS:=dc.iff.1 (SL.cD hS (t:=.ob (dc sp tp dp lp k)::ui xb x t::.ob (cw dp k.d)::.mem H::F) Xi);refine Gp ?_;refine Cg (zL dp k.d) λw hS=>?_;cases ho:k.d.off with
 | true=>
  refine zq ?_;rw[show k.gK t=(k,(0,8)) by unfold cW.gK;rw[zzd ho]];exact⟨_,⟨rfl,rfl⟩,SL.cD (dc.put k hS Xp) Xi⟩
 | false=>
  refine zp ?_;refine Gn λw hS=>?_;refine Cg (cKa tp k.ts H x.cv t.changes hx.cv (by omega) gg Jt (by omega) (by omega)) λw hS=>?_;refine zy (λhf=>?_) (λhf=>?_)
  ·rw[show k.gK t=(k,(0,7)) by unfold cW.gK;rw[zzb (by simp[ho]),zzd (.inl hf)]];exact⟨_,⟨rfl,rfl⟩,SL.cD (dc.put k hS Xp) Xi⟩
  have hS:=dc.put k hS Xp;refine Cg (zI sp tp dp lp k hg hN) λw hS=>?_;refine za (λhh=>?_) (λhh=>?_)
  ·rw[show k.gK t=(k,(0,7)) by unfold cW.gK;rw[zzb (by simp[ho]),zzd (.inr hh)]];exact cF hS
  refine Cg (zI sp tp dp lp k hg hN) λw hS=>?_;have uQ:=V7 hm (n:=cO k.g.bI+1) (by omega) (by omega);have oO:lL H ⟨cO k.g.bI+1,t.kind,x.cv,x.sv,t.mark⟩ {t with aw:=cO k.g.bI+1}:=⟨rfl,rfl,rfl,hx.cv,hx.sv⟩;have TU:k.gK t=(let r:=fy k.g k.d (gz {t with aw:=cO k.g.bI+1});if r.2.2=0 then ({k with g:=r.1.1,d:=r.1.2,ts:=gd k.ts t.changes},(cO k.g.bI+1,0)) else ({k with g:=r.1.1,d:=r.1.2},(0,r.2.2))):=by
   unfold cW.gK;rw[zzb (by simp[ho]),zzb (by rw[hf];simp;omega)]
  have p5:=HX uQ;have T1:=Sg uQ;rw[TU];clear TU;generalize hq:({t with aw:=cO k.g.bI+1}:cM)=t2 at *
  have Bf:1<=cO k.g.bI+1:=by omega
  generalize cO k.g.bI+1=aw at *
  refine Cc (Yi H ⟨aw,t.kind,x.cv,x.sv,t.mark⟩ t2 oO) ?_;clear hS;rintro r post hq w hS;unfold B7 at hq;rw[T1]at hq
  obtain⟨bv,rfl,rfl⟩:=hq;try simp only[app]at hS
  have hS:=dc.iff.1 (SL.cD hS (t:=.ob (dc sp tp dp lp k)::.ob (bF bv 5 1 (nU t2).length ((nU t2).map dd))::.ob (cw dp k.d)::.pt xb [Γ aw,Γ t.kind,x.cv,x.sv,Γ t.mark] 89::.mem H::F) Xi);refine Gp ?_;refine⟨λus w=>us=[Γ (fy k.g k.d (gz t2)).2.2]/\SL W (.ob (dx lp dp (fy k.g k.d (gz t2)).1.1)::.ob (cw dp (fy k.g k.d (gz t2)).1.2)::.pt sp (mE tp dp lp k.eh k.image) 133::.ob (dV tp k.ts)::.pt xb [Γ aw,Γ t.kind,x.cv,x.sv,Γ t.mark] 89::.mem H::F) w,?_,?_⟩
  ·refine Gp ?_;refine Υ ?_;refine Gp ?_;refine Cg (Zl (.ob (bF bv 5 1 (nU t2).length ((nU t2).map dd))) lp dp k.g k.d bv (nU t2) dX.own (by omega) hg.ok (by omega) hk.d (by omega) ed) λw hS=>?_;exact aR hS
  clear hS;rintro v7 w ⟨cT,hS⟩;cases cT;generalize fy k.g k.d (gz t2)=r at *
  obtain⟨⟨g',d'⟩,n',e'⟩:=r;simp only at hS ⊢;refine cA (λhe=>?_) (λhe=>?_)
  ·rw[zzb he];exact⟨_,⟨rfl,rfl⟩,SL.cD (dc.eX (d:=d') hS Xp) Xi⟩
  have he:e'=0:=by omega
  rw[zzd he];refine Gn λw hS=>?_;refine Cg (ZV tp k.ts H x.cv t.changes hx.cv (by omega) gg 1000 hk.len (by omega)) λw hS=>?_;have eK:t.changes.all (iq k.ts.length)=true:=by
   unfold mM at hf;rw[zzu]at hf
   exact hf.1
  rw[zzd eK]at hS
  exact⟨_,⟨rfl,rfl⟩,SL.cD (dc.eX (d:=d') hS Xp) Xi⟩
def qj(sp tp dp lp:Nat)(k:cW)(H:bw)(sv cv:Ε)(sg:Ψ)(l:List d_)(hs:de H 1 sv sg.length (sg.map Value.string))(hc:de H 4 cv l.length (l.map dC).flatten)(hl:l.length<=140737488351232){N:Nat}(hk:jH k N)(hN:N<=1000000000)(ed:k.d.ops<=90000):
  SP 43 [cH sp,sv,cv] [.ob (dc sp tp dp lp k),.ob (cw dp k.d),.mem H] (Ap sp tp dp lp H (k.oD sg l)):=by
 refine Enzz λW F w hS=>?_;apply cR5;delta bW cP ai bR;have vZ:=hs.one;have gl:=hc.one;have hx:lL H ⟨1,1,cv,sv,0⟩ ⟨1,1,l,sg,0⟩:=⟨rfl,rfl,rfl,hc,hs⟩;have e0:ib [Γ 0,Γ 0,Θ,Θ,Γ 0] [(0,1,Γ 1),(1,1,Γ 1),(2,1,cv),(3,1,sv)]=some (eV ⟨1,1,cv,sv,0⟩):=by
  simp[ib,show ∀n,(Γ n).cells = #[Γ n] from λ_=>rfl,BH vZ,BH gl,eV]
 refine yZ e0 ?_;refine Gb λxb w hS=>?_;refine zt hS Xu rfl rfl (vB gl vZ) λw hS=>?_;refine zr hS Xh rfl ?_;refine Cg (yo H ⟨1,1,cv,sv,0⟩ ⟨1,1,l,sg,0⟩ hx) λw hS=>?_;refine zy (λhm=>?_) (λhm=>?_)
 ·rw[show k.oD sg l=(k,(0,1)) by unfold cW.oD;rw[zzb (by rw[hm];simp)]];exact cF hS
 have hS:=dc.iff.1 (SL.cD hS (t:=.ob (dc sp tp dp lp k)::.pt xb (eV ⟨1,1,cv,sv,0⟩) 89::.ob (cw dp k.d)::.mem H::F) Xi);refine Gp ?_;refine Cg (yt tp k.ts) λw hS=>?_;refine Cg (Z3 H cv l k.ts.length hc hl) λw hS=>?_;have hS:=dc.put k hS Xp;refine zy (λhb=>?_) (λhb=>?_)
 ·have hb:=yy2 hb;rw[show k.oD sg l=(k,(0,1)) by unfold cW.oD;rw[zzb λh=>hb h.2]];exact cF hS
 have hb:=zzp hb;rw[show k.oD sg l=k.gK ⟨1,1,l,sg,0⟩ by unfold cW.oD;rw[zzd ⟨hm,hb⟩]];refine zr hS Xh rfl ?_;refine Cg (Y0 sp tp dp lp k H ⟨1,1,cv,sv,0⟩ ⟨1,1,l,sg,0⟩ hx hm hk hN ed) λw hS=>?_;exact cF hS
def mK(d:DS)(f:Int):DS × Int:=if 0<=gH d.R f then d.cut f 0 else (d,0)
def oE(d:DS)(f:Int)(b:Φ):DS × Int:=if (mK d f).2=0 then (mK d f).1.append f b else mK d f
def S3(d:DS)(f:Int)(b:Φ):kR d f b=if (oE d f b).2=0 then (oE d f b).1.sync f else oE d f b:=by
 unfold kR oE;rw[show (if 0<=gH d.R f then d.cut f 0 else (d,0))=mK d f from rfl];generalize mK d f=c;simp only;by_cases h:c.2=0
 ·rw[zzb (by simp[h]),zzd h];generalize c.1.append f b=a;by_cases h2:a.2=0
  ·rw[zzb (by simp[h2]),zzd h2]
  rw[zzd h2,zzb h2]
 rw[zzd h,zzb h,zzb h]
def S2{d:DS}{f:Int}{N:Nat}(h:d.Ok N):(mK d f).1.Ok N/\(mK d f).1.ops<=d.ops+1:=by
 unfold mK;split
 ·exact⟨h.cut f 0,WQ d f 0⟩
 exact⟨h,Nat.le_succ _⟩
def S1{d:DS}{f:Int}{b:Φ}{N:Nat}(h:d.Ok N):(oE d f b).1.Ok (N+b.length)/\(oE d f b).1.ops<=d.ops+2:=by
 obtain⟨h1,h2⟩:=S2 (f:=f) h;unfold oE;split
 ·exact⟨h1.append f b,by have:=WO (mK d f).1 f b;omega⟩
 exact⟨h1.mono (by omega),by omega⟩
def S4{d:DS}{f:Int}{b:Φ}{N:Nat}(h:d.Ok N):(kR d f b).1.Ok (N+b.length)/\(kR d f b).1.ops<=d.ops+3:=by
 obtain⟨h1,h2⟩:=S1 (f:=f) (b:=b) h;rw[S3];split
 ·exact⟨h1.sync f,by have:=cDk (oE d f b).1 f;omega⟩
 exact⟨h1,by omega⟩
def jH.jo{k:cW}{N:Nat}(h:jH k N):jo (cO k.g.bI) k.ts=true:=
 sS.2 ⟨⟨(sH h.g.ok.bI).1,h.g.hd,h.n1,h.n8⟩,λC hC=>⟨(h.rows C hC).sorted,(h.rows C hC).rows,h.len C hC⟩⟩
def nR.zero(H:bw)(ts:List (List Row)):nR H [] (ts.take 0):=nR.nil H
def Q8(sp tp dp lp:Nat)(k:cW)(H:bw){N:Nat}(hk:jH k N)(hN:N<=1000000000)(ed:k.d.ops<=90000):
  SP 169 [cH sp] [.ob (dc sp tp dp lp k),.ob (cw dp k.d),.mem H] (λv post=>v= Γ k.jb.2/\∃H',H.le H'/\post=[.ob (dc sp tp dp lp k.jb.1),.ob (cw dp k.jb.1.d),.mem H']):=by
 refine Enzz λW F w hS=>?_;apply cMx;delta aI bW c_ ai bR;have Jt:∀C∈k.ts,C.length<=1000000:=λC hC=>by have:=hk.len C hC;omega
 have h8:=hk.n8;have nY:=hk.jo;have hS:=dc.iff.1 hS;refine⟨λus w=>us=[Γ (jF k)]/\SL W (.pt sp (mE tp dp lp k.eh k.image) 133::.ob (dV tp k.ts)::.ob (dx lp dp k.g)::.ob (cw dp k.d)::.mem H::F) w,?_,?_⟩
 ·refine cA (λh=>?_) (λh=>?_)
  ·rw[show jF k=1 by unfold jF;rw[zzd h]];refine Gp ?_;first|exact hS|exact⟨rfl,hS⟩
  rw[show jF k=0 by unfold jF;rw[zzb h]];first|exact hS|exact⟨rfl,hS⟩
 clear hS;rintro v3 w ⟨cT,hS⟩;cases cT;generalize hf:jF k=f at *
 refine Gp ?_;refine Cg (yt tp k.ts) λw hS=>?_;have hS:SL W (.ob (bF Θ 55 1 (k.ts.take 0).length [])::_) _:=bF.nil hS;refine⟨λus w=>∃(i:Nat) (tv:Ε) (vs:Ξ) (H':bw),us=[tv,Γ i]/\i<=k.ts.length/\H.le H'/\nR H' vs (k.ts.take i)/\SL W (.ob (bF tv 55 1 (k.ts.take i).length vs)::.pt sp (mE tp dp lp k.eh k.image) 133::.ob (dV tp k.ts)::.ob (dx lp dp k.g)::.ob (cw dp k.d)::.mem H'::F) w,
  λus _=>match us with|[_,.int _ i]=>(k.ts.length-i).toNat|_=>0,⟨0,_,[],H,rfl,by omega,bw.le_refl H,nR.zero H k.ts,aR hS⟩,?_⟩
 clear hS;rintro tv v21 w ⟨i,_,vs,H',cT,hi,hh,hR,hS⟩;cases cT;refine cA (λh=>?_) (λh=>?_)
 ·have cG:i<k.ts.length:=by omega
  refine Gp ?_;refine Cc (Yv tp k.ts i Jt) ?_;clear hS;rintro rv post rfl w hS;rw[ow k.ts i cG]at hS
  try simp only[app]at hS
  obtain⟨H2,dF,hO,hS⟩:=zw (H:=H') (v:=rv) hS Xp;have gl:=hO.one;have Bf:(k.ts.take i).length=i:=by rw[zzg];omega
  refine zM hS (Tn gl) λb w hS=>?_;refine zJ (n:=(k.ts.take i).length) (m:=1) hS Xr (jR (cs:=[rv]) hS Xh rfl) rfl rfl (by simpa using gl) (by omega) (by omega) ?_;clear hS;intro u w hS;have gR:k.ts.take (i+1)=k.ts.take i++[k.ts[i]]:=zze cG;refine Gp ?_;refine⟨⟨i+1,u,vs++[rv],H2,rfl,by omega,bw.le_trans hh dF,by rw[gR];exact (hR.mono dF).snoc hO,?_⟩,by dsimp only;omega⟩;have hS:=hS.rm (x:=k.ts[i]);rw[gR];exact aR hS
 obtain rfl:i=k.ts.length:=by omega
 rw[zz0]at hR hS
 obtain⟨H2,dF,hO,hS⟩:=zw (H:=H') (v:=tv) hS Xp;have fu:=bw.le_trans hh dF;have hT:vo H2 tv k.ts:=⟨vs,hO,hR.mono dF⟩;have hS:=dc.put k hS Xp;refine Cg (zI sp tp dp lp k hk.g hN) λw hS=>?_;refine Cc (qR H2 tv (cO k.g.bI) k.ts hT (by omega) (λC hC=>by have:=hk.len C hC;omega)) ?_;clear hS;rintro r post hq w hS;unfold El E8 at hq;rw[zzd nY]at hq
 obtain⟨bv,rfl,rfl⟩:=hq;(try simp only[app]at hS);refine Gp ?_
 have p5:(dm (jw (cO k.g.bI) k.ts)).length<=400000:=by rw[kJ];have:=By nY;omega
 have hD:k.jb=(let r:=kR k.d f (dm (jw (cO k.g.bI) k.ts));if r.2=0 then ({k with d:=r.1,eh:=f,image:=cO k.g.bI},0) else ({k with d:=r.1},r.2)):=by rw[<- hf];rfl
 rw[hD];clear hD nY;generalize dm (jw (cO k.g.bI) k.ts)=B at *
 have hS:=dc.iff.1 (SL.cD hS (t:=.ob (dc sp tp dp lp k)::.ob (bF bv 5 1 B.length (B.map dd))::.ob (cw dp k.d)::.mem H2::F) Xi);refine⟨λus w=>us=[Γ (mK k.d f).2]/\SL W (.ob (cw dp (mK k.d f).1)::.ob (bF bv 5 1 B.length (B.map dd))::.pt sp (mE tp dp lp k.eh k.image) 133::.ob (dV tp k.ts)::.ob (dx lp dp k.g)::.mem H2::F) w,?_,?_⟩
 ·refine Gp ?_;refine Υ ?_;refine Gp ?_;refine Cg (YP dp k.d f) λw hS=>?_;refine za (λh0=>?_) (λh0=>?_)
  ·rw[show mK k.d f=k.d.cut f 0 by unfold mK;rw[zzd h0]];refine Gp ?_;refine Cg (ZB dp k.d N hk.d (by omega) (by omega) f 0) λw hS=>?_;first|exact aR hS|exact⟨rfl,aR hS⟩
  rw[show mK k.d f=(k.d,0) by unfold mK;rw[zzb h0]];first|exact aR hS|exact⟨rfl,aR hS⟩
 clear hS;rintro v7 w ⟨cT,hS⟩;cases cT;obtain⟨gl,ju⟩:=S2 (f:=f) hk.d;refine⟨λus w=>us=[Γ (oE k.d f B).2]/\SL W (.ob (cw dp (oE k.d f B).1)::.pt sp (mE tp dp lp k.eh k.image) 133::.ob (dV tp k.ts)::.ob (dx lp dp k.g)::.mem H2::F) w,?_,?_⟩
 ·refine cA (λh0=>?_) (λh0=>?_)
  ·rw[show oE k.d f B=(mK k.d f).1.append f B by unfold oE;rw[zzd h0]];refine Gp ?_;refine Cg (HM (.ob (bF bv 5 1 B.length (B.map dd))) dp (mK k.d f).1 N gl (by omega) f bv B (λh m=>nG h m) (by omega)) λw hS=>?_;first|exact aR hS|exact⟨rfl,aR hS⟩
  rw[show oE k.d f B=mK k.d f by unfold oE;rw[zzb h0]];first|exact aR hS|exact⟨rfl,aR hS⟩
 clear hS;rintro v7 w ⟨cT,hS⟩;cases cT;obtain⟨mo,xy⟩:=S1 (f:=f) (b:=B) hk.d;rw[S3];generalize oE k.d f B=a at *
 simp only;refine cA (λh0=>?_) (λh0=>?_)
 ·rw[zzd h0];refine Gp ?_;refine Cg (Yu dp a.1 (N+B.length) mo (by omega) f) λw hS=>?_;generalize a.1.sync f=c at *
  refine za (λhe=>?_) (λhe=>?_)
  ·rw[zzb he];exact⟨_,⟨rfl,H2,fu,rfl⟩,SL.cD (dc.eX (d:=c.1) hS Xp) Xi⟩
  rw[zzd (show c.2=0 by omega)];have hS:=dc.put k hS Xp;refine Cg (zI sp tp dp lp k hk.g hN) λw hS=>?_;have hS:=dc.iff.1 (SL.cD hS (t:=.ob (dc sp tp dp lp k)::.ob (cw dp c.1)::.mem H2::F) Xi);refine Gn λw hS=>?_;exact⟨_,⟨rfl,H2,fu,rfl⟩,SL.cD (dc.eX (d:=c.1) (eh:=f) (image:=cO k.g.bI) hS Xp) Xi⟩
 rw[zzb h0,zzb h0];refine Gp ?_;refine za (λhe=>?_) (λhe=>absurd (by omega) h0);exact⟨_,⟨rfl,H2,fu,rfl⟩,SL.cD (dc.eX (d:=a.1) hS Xp) Xi⟩
def cI3(sp tp dp lp:Nat)(k:cW)(H:bw)(aw:Int){N:Nat}(hk:jH k N)(hN:N<=900000000)(ed:k.d.ops+k.g.bI.length<=90000):
  SP 109 [cH sp,Γ aw] [.ob (dc sp tp dp lp k),.ob (cw dp k.d),.mem H] (λv post=>v= Γ (k.iR aw).2/\∃H',H.le H'/\post=[.ob (dc sp tp dp lp (k.iR aw).1),.ob (cw dp (k.iR aw).1.d),.mem H']):=by
 refine Enzz λW F w hS=>?_;apply cLc;delta aI bW ai;have gV:∀{w:Ζ} {e:Int},k.iR aw=(k,e)->SL W (.ob (dc sp tp dp lp k)::.ob (cw dp k.d)::.mem H::F) w->∃post,((Γ e:Ε)= Γ (k.iR aw).2/\∃H',H.le H'/\post=[.ob (dc sp tp dp lp (k.iR aw).1),.ob (cw dp (k.iR aw).1.d),.mem H'])/\SL W (app post F) w:=λhe hS=>by
  rw[he];exact⟨_,⟨rfl,H,bw.le_refl H,rfl⟩,hS⟩
 refine Gp ?_;refine za (λh=>gV (by unfold cW.iR;rw[zzd (.inl h)]) hS) (λh1=>?_);refine Cg (zI sp tp dp lp k hk.g (by omega)) λw hS=>?_;refine za (λh=>gV (by unfold cW.iR;rw[zzd (.inr h)]) (aR hS)) (λh2=>?_);have hS:=dc.iff.1 (SL.cD hS (t:=.ob (dc sp tp dp lp k)::.ob (cw dp k.d)::.mem H::F) Xi);refine Gp ?_;refine Cg (zL dp k.d) λw hS=>?_;have hS:=dc.put k hS Xp;have dF:¬(aw<0\/cO k.g.bI<aw):=by omega
 cases ho:k.d.off with
 | true=>
  refine zq ?_;exact gV (by unfold cW.iR;rw[zzb dF,zzd ho]) (aR hS)
 | false=>
  refine zp ?_;have hT:k.iR aw=(let r:=if k.image<aw then k.jb else (k,0);if r.2≠0 then r else let t:=iG r.1.g r.1.d aw;({r.1 with g:=t.1.1,d:=t.1.2},t.2)):=by
   unfold cW.iR;rw[zzb dF,zzb (by simp[ho])]
  rw[hT];clear hT gV;have hS:=dc.iff.1 (SL.cD hS (t:=.ob (dc sp tp dp lp k)::.ob (cw dp k.d)::.mem H::F) Xi);refine cA (λh3=>?_) (λh3=>?_)
  ·rw[zzd h3];have hS:=dc.put k hS Xp;refine Cc (Q8 sp tp dp lp k H hk (by omega) (by omega)) ?_;clear hS;rintro v post ⟨rfl,H',hh,rfl⟩ w hS;try simp only[app]at hS
   have uM:k.jb.1.g=k.g:=by unfold cW.jb;simp only;split<;>rfl
   have vM:k.jb.1.d.Ok (N+400000)/\k.jb.1.d.ops<=k.d.ops+3:=by
    have nY:=hk.jo;have p5:(dm (jw (cO k.g.bI) k.ts)).length<=400000:=by rw[kJ];have:=By nY;omega
    obtain⟨a,b⟩:=S4 (f:=jF k) (b:=dm (jw (cO k.g.bI) k.ts)) hk.d;have:k.jb.1.d=(kR k.d (jF k) (dm (jw (cO k.g.bI) k.ts))).1:=by unfold cW.jb;simp only;split<;>rfl
    rw[this];exact⟨a.mono (by omega),b⟩
   generalize k.jb=r at *
   obtain⟨k2,e⟩:=r;simp only at uM vM hS ⊢;refine cA (λhe=>?_) (λhe=>?_)
   ·rw[zzd he];exact⟨_,⟨rfl,H',hh,rfl⟩,aR hS⟩
   rw[zzb he];have hS:=dc.iff.1 hS;refine Gp ?_;refine Cg (Zw lp dp k2.g k2.d aw (by rw[uM];exact hk.g.ok) (by omega) vM.1 (by rw[uM];omega)) λw hS=>?_;exact⟨_,⟨rfl,H',hh,rfl⟩,SL.cD (dc.eX (d:=(iG k2.g k2.d aw).1.2) hS Xp) Xi⟩
  rw[zzb h3];simp only;rw[zzb (by simp)];refine Gp ?_;refine Cg (Zw lp dp k.g k.d aw hk.g.ok (by omega) hk.d (by omega)) λw hS=>?_;exact⟨_,⟨rfl,H,bw.le_refl H,rfl⟩,SL.cD (dc.eX (d:=(iG k.g k.d aw).1.2) hS Xp) Xi⟩
def cU(n:Int)(l:List cM)(k:Int):List (List Row):=if n<1\/8<n then [] else (List.range n.toNat).map λt:Nat=>xm t (l.take (cne k l.length))
def bWc(l:List cM)(tb:Int)(i:Nat):(xm tb (l.take i)).length<=(l.flatMap (·.changes)).length:=by
 have h2:=cAa (l:=(l.take i).flatMap (·.changes)) [] tb;have e:(l.flatMap (·.changes)).length=((l.take i).flatMap (·.changes)).length+((l.drop i).flatMap (·.changes)).length:=by
  have:l=l.take i++l.drop i:=by simp
  conv=>lhs;rw[this]
  simp only[vv9,zza]
 unfold xm;simp only[yym]at h2;omega
def Kt{base size:Int}(b0:0<=base)(b1:base<=12288)(s0:64<=size)(s1:size<=65536):ff gU base size=(gU,.ok ⟨[],base,size,none⟩):=
 Kw (L:=[]) (f:=base) (n:=1) trivial rfl rfl b0 b1 s0 s1 (yyf _) (by simp;omega) (by decide) (by simp[cX])
def cAc{base size:Int}(b0:0<=base)(b1:base<=12288)(s0:64<=size)(s1:size<=65536):gI ⟨[],base,size,none⟩ gU base 1 []:=
 ⟨trivial,rfl,rfl,λ_=>⟨rfl,rfl⟩,yyf _,b0,b1,s0,s1,by decide,by show base+((0:Nat):Int)+2<=base+4096;omega,rfl,rfl⟩
def cCv{base size:Int}(b0:0<=base)(b1:base<=12288)(s0:64<=size)(s1:size<=65536):(⟨[],base,size,none⟩:da).Ok 0:=⟨by simp,b0,b1,s0,s1,zzi _⟩
structure oz(n:Nat)(all:List cM):Prop where
 ok:s9 n all
 len:all.length<=1000
 jL:(all.flatMap (·.changes)).length<=1000
def oz.nil(n:Nat):oz n []:=⟨⟨by simp,λi h=>by simp at h,by simp⟩,by decide,by decide⟩
def oz.take{n:Nat}{all:List cM}(h:oz n all)(j:Nat):oz n (all.take j):=by
 refine⟨⟨λt ht=>h.ok.may t (yys ht),λi hi=>?_,λt ht=>h.ok.ch t (yys ht)⟩,by rw[zzg];have:=h.len;omega,?_⟩
 ·rw[uum];exact h.ok.aw i _
 have e:(all.flatMap (·.changes)).length=((all.take j).flatMap (·.changes)).length+((all.drop j).flatMap (·.changes)).length:=by
  conv=>lhs;rw[<- yyk j all]
  rw[vv9,zza]
 have:=h.jL;omega
def oz.row{n:Nat}{all:List cM}(h:oz n all):∀C∈fO n all,C.length<=1000:=λC hC=>by
 unfold fO at hC;obtain⟨t,_,rfl⟩:=zzx.1 hC;have:=bWc all (t:Int) all.length;rw[zz0]at this
 have:=h.jL;omega
def oz.rows{n:Nat}{all:List cM}(h:oz n all):∀C∈fO n all,nS C:=Le h.ok.may h.ok.ch
def oz.x9{n:Nat}{all:List cM}(h:oz n all)(n1:1<=n)(n8:n<=8):As n all:=λj hj=>by
 have ht:=h.take j;have hl:=h.len;refine sS.2 ⟨⟨by omega,by omega,by rw[rn];exact n1,by rw[rn];exact n8⟩,λC hC=>⟨(ht.rows C hC).sorted,(ht.rows C hC).rows,ht.row C hC⟩⟩
def jH.mono{k:cW}{N M:Nat}(h:jH k N)(hm:N<=M):jH k M:=⟨h.g.mono hm,h.d.mono hm,h.rows,h.len,h.n1,h.n8⟩
def jH.add{k:cW}{N:Nat}(h:jH k N){t:cM}(hm:eG t=true):jH (k.gK t).1 (N+2000):=by
 unfold cW.gK;split
 ·exact h.mono (by omega)
 split
 ·exact h.mono (by omega)
 rename_i ho hf;have tI:=sH h.g.ok.bI;have uQ:=V7 hm (n:=cO k.g.bI+1) (by omega) (by omega);have hl:=HX uQ;have hb:(gz {t with aw:=cO k.g.bI+1}).length<=1200:=hl;have hg:=RU (d:=k.d) h.g (gz {t with aw:=cO k.g.bI+1});have hd:=RV (g:=k.g) h.d (gz {t with aw:=cO k.g.bI+1});generalize gz {t with aw:=cO k.g.bI+1}=p at *
 have p7:mM k.ts t.changes=true:=by
  cases hq:mM k.ts t.changes with
  | true=>rfl
  | false=>exact absurd (Or.inl hq) hf
 simp only;split
 ·unfold mM at p7;rw[zzu,zz5,zz5]at p7
  refine⟨hg.mono (by omega),hd.mono (by omega),HP (k:=8) h.rows (my hm).2.2.2.2.2.1 p7.1,λC hC=>zzp (p7.2 C hC),?_,?_⟩
  ·show 1<=(gd k.ts t.changes).length;rw[um];exact h.n1
  show (gd k.ts t.changes).length<=8;rw[um];exact h.n8
 exact⟨hg.mono (by omega),hd.mono (by omega),h.rows,h.len,h.n1,h.n8⟩
def jH.draw{k:cW}{N:Nat}(h:jH k N):jH k.jb.1 (N+400000):=by
 have nY:=h.jo;have p5:(dm (jw (cO k.g.bI) k.ts)).length<=400000:=by rw[kJ];have:=By nY;omega
 obtain⟨hd,_⟩:=S4 (f:=jF k) (b:=dm (jw (cO k.g.bI) k.ts)) h.d;have hd:=hd.mono (M:=N+400000) (by omega);unfold cW.jb;simp only;split
 ·exact⟨h.g.mono (by omega),hd,h.rows,h.len,h.n1,h.n8⟩
 exact⟨h.g.mono (by omega),hd,h.rows,h.len,h.n1,h.n8⟩
def jH.trim{k:cW}{N:Nat}(h:jH k N)(aw:Int):jH (k.iR aw).1 (N+400000):=by
 unfold cW.iR;split
 ·exact h.mono (by omega)
 split
 ·exact h.mono (by omega)
 have hr:jH (if k.image<aw then k.jb else (k,0)).1 (N+400000):=by
  split
  ·exact h.draw
  exact h.mono (by omega)
 generalize (if k.image<aw then k.jb else (k,0))=r at *
 simp only;split
 ·exact hr
 exact⟨cKh hr.g aw,cKj hr.d aw,hr.rows,hr.len,hr.n1,hr.n8⟩
def wc(n:Nat)(size:Int):cW:=⟨⟨[],16,size,none⟩,gU,List.replicate n [],-1,0⟩
def cH6{n:Nat}(n1:1<=n)(n8:n<=8){size:Int}(s0:64<=size)(s1:size<=65536):lD gU n size=(gU,.ok (wc n size))/\jg n (wc n size) [] 0 [] gU 16 0 0:=by
 have lO:mG n [] [] (-1) 0:=⟨.nil,by simp,by simp,λ_=>rfl,.inl rfl,zzi _,λh=>absurd rfl h,by simp⟩;have hw:dP 16 4112 [] [] gU.R:=⟨by simp,by simp[gU],by simp⟩;have:=WN n1 n8 (oz.nil n).ok ((oz.nil n).x9 n1 n8) (I:=[]) (tr:=0) (Kt (base:=16) (by decide) (by decide) s0 s1) hw (cAc (by decide) (by decide) s0 s1) rfl lO (zzi _) (zzi _) (by decide);rw[Ld]at this
 exact this
def cH5{n:Nat}(n1:1<=n)(n8:n<=8){size:Int}(s0:64<=size)(s1:size<=65536):jH (wc n size) 0:=
 ⟨⟨cCv (by decide) (by decide) s0 s1,trivial,show (0:Int)<=1099511627776 by decide,λx hx=>by cases hx⟩,D6 0,λC hC=>by rw[(uuh.1 hC).2];exact Xm,λC hC=>by rw[(uuh.1 hC).2];exact zz4 _,by show 1<=(List.replicate n []).length;rw[xxn];exact n1,by show (List.replicate n []).length<=8;rw[xxn];exact n8⟩
def jg.read{n:Nat}{k:cW}{all:List cM}{tr:Nat}{I:List PF}{d0:DS}{f:Int}{lo m:Nat}(h:jg n k all tr I d0 f lo m)(ho:∀t∈all,eG t=true){j:Nat}(h1:lo<=j)(h2:j<all.length):k.gN ((j:Int)+1)= .ok all[j]:=by
 unfold cW.gN;rw[h.log.chain.read,zzd (by omega),h.log.gG];have e:(((j:Int)+1-((lo:Int)+1)).toNat)=j-lo:=by omega
 have e2:((all.drop lo).map gz)[j-lo]?=some (gz all[j]):=by
  rw[ww5,www,show lo+(j-lo)=j by omega,zzc h2];rfl
 rw[e,e2];exact Sf (ho _ (zzh h2))
def jg.bI{n:Nat}{k:cW}{all:List cM}{tr:Nat}{I:List PF}{d0:DS}{f:Int}{lo m:Nat}(h:jg n k all tr I d0 f lo m):k.g.bI.length<=all.length+1:=by
 have:=h.log.chain.sQ;rw[h.log.gG,zzn,zzs]at this
 omega
def WM{d d':DS}{n size:Int}{k:cW}(h:lD d n size=(d',.ok k)):ff d 16 size=(d',.ok k.g):=by
 unfold lD at h;split at h
 ·cases h
 split at h
 ·cases h
 rename_i g hg;simp only at h;split at h
 ·cases h
 split at h
 ·cases h;exact hg
 cases h
structure dM where
 n:Int
 state:Int
 mark:Int
 after:Int
 id:Int
 table:Int
 rows:List Row
 dG:Int
 last:Bool
abbrev nf(n:Int):dM:=⟨n,0,0,0,0,0,[],0,false⟩
def dM.Ai(w:dM)(mark id table after:Int):Prop:=w.state≠0\/mark<1\/1099511627776<mark\/id<1\/64<id\/table<0\/8<=table\/after<0\/1099511627776<after
instance (w:dM) (mark id table after:Int):Decidable (w.Ai mark id table after):=by unfold dM.Ai;infer_instance
def dM.tY(w:dM)(mark id table after:Int):dM:=if w.Ai mark id table after then w else ⟨w.n,1,mark,after,id,table,[],0,false⟩
def ou:Int->List Row->Bool
 | _,[]=>true
 | k,r::C=>decide (k<r.key/\r.key<=1099511627776) && ou r.key C
def lE(after:Int)(C:List Row):Int:=(C.getLast?.map (·.key)).getD after
def dM.xj(w:dM)(C:List Row):Prop:=w.state≠1\/w.n<C.length\/ou w.after C=false
instance (w:dM) (C:List Row):Decidable (w.xj C):=by unfold dM.xj;infer_instance
def dM.fill(w:dM)(C:List Row):dM:=if w.xj C then w else {w with state:=2,rows:=C,dG:=lE w.after C,last:=decide ((C.length:Int)<w.n)}
def dM.shut(w:dM):dM:=if w.state=2 then {w with state:=3} else w
def dM.waits(w:dM)(kind mark:Int):Bool:=decide (kind=2/\mark=w.mark/\(w.state=1\/w.state=2))
def dM.low(w:dM)(mark:Int):dM:=if w.state=3/\mark=w.mark then {w with state:=4} else w
def lq(t:Int)(l:List d_)(r:Row):Bool:=l.any λc=>decide (c.table=t/\c.key=r.key)
def dM.rU(w:dM)(l:List d_):dM:=if w.state=4 then {w with rows:=w.rows.filter λr=>!lq w.table l r} else w
def dM.uN(w:dM)(mark aw:Int):Prop:=w.state≠4\/mark≠w.mark\/aw<1\/1099511627776<aw
instance (w:dM) (mark aw:Int):Decidable (w.uN mark aw):=by unfold dM.uN;infer_instance
def kq(w:dM)(aw:Int):List gx:=w.rows.map λr=>⟨aw,w.table,r.key,false,r.val⟩
def rP(w:dM):iC:=⟨2,w.id,0,0,0,w.dG,w.last⟩
def dM.high(w:dM)(mark aw:Int):dM × Option cJ:=if w.uN mark aw then (w,none) else (nf w.n,some ⟨aw,kq w aw,[rP w]⟩)
structure dH where
 l:List (Int × Int)
 at_:Int
 left:Int
abbrev w9:dH:=⟨[],-1,0⟩
def Bx(d:dH)(id:Int):Option Nat:=d.l.findIdx? λm=>decide (m.1=id)
def dH.add(d:dH)(id weight:Int):dH:=
 if id<1\/64<id\/weight<1\/8<weight then d else match Bx d id with
 | some _=>d
 | none=>{d with l:=d.l++[(id,weight)]}
def dH.del(d:dH)(id:Int):dH:=match Bx d id with
 | none=>d
 | some i=>⟨d.l.eraseIdx i,if (i:Int)<=d.at_ then d.at_-1 else d.at_,if (i:Int)=d.at_ then 0 else d.left⟩
def dH.place(d:dH):Int:=if d.left=0 then (if (d.l.length:Int)<=d.at_+1 then 0 else d.at_+1) else d.at_
def dH.mA(d:dH):Int × Int:=(d.l[d.place.toNat]?).getD (0,0)
def dH.next(d:dH):dH × Int:=if d.l=[] then (d,0) else (⟨d.l,d.place,(if d.left=0 then d.mA.2 else d.left)-1⟩,d.mA.1)
structure dH.Ok(d:dH):Prop where
 mg : -1<=d.at_
 oZ:d.at_<d.l.length
 Gd:0<=d.left
 Ge:d.left<=8
 neg:d.at_ = -1->d.left=0
 w:∀m∈d.l,1<=m.1/\m.1<=64/\1<=m.2/\m.2<=8
 nd:(d.l.map Prod.fst).Nodup
def vl:Φ:=[115,110,97,112,115,104,111,116,32]
def wu:Φ->Option (Int × Int)
 | [d]=>if 48<=d.toNat/\d.toNat<=55 then some ((d.toNat:Int)-48,1) else none
 | [d,s,e]=>if (48<=d.toNat/\d.toNat<=55)/\s.toNat=32/\49<=e.toNat/\e.toNat<=56 then some ((d.toNat:Int)-48,(e.toNat:Int)-48) else none
 | _=>none
def Aj(s:Η):Option (Int × Int):=if s.data.toList.take 9=vl then wu (s.data.toList.drop 9) else none
structure dJ where
 tables:Int
 late:Int
 at_:Int
 reqs:List Rq
 cI:dM
def DT(tables late chunk aw:Int)(L:List Rq):Prop:=tables<1\/8<tables\/late<0\/2 ^ tables.toNat<=late\/aw<0\/1099511627776<aw\/chunk<1\/64<chunk\/¬gm L\/∃r∈L,tables<=r.table\/aw<r.at_
def dJ.captured(m:dJ)(t:Int):Bool:=decide (0<=t/\t<m.tables) && (decide (R9 m.late t=0) || m.reqs.any λr=>decide (r.table=t))
def dJ.accept(m:dJ)(s:Η)(aw:Int):List Rq × List iC:=match Aj s with
 | none=>(m.reqs,[])
 | some g=>if m.tables<=g.1 then (m.reqs,[]) else match pL m.reqs g.1 g.2 aw with
  | none=>(m.reqs,[])
  | some L=>(L,[⟨1,L.length,g.1,g.2,aw,0,false⟩])
def dJ.fr(m:dJ)(aw:Int):Ψ->dJ × List iC
 | []=>(m,[])
 | s::l=>let r:=m.accept s aw;let x:=dJ.fr {m with reqs:=r.1} aw l;(x.1,r.2++x.2)
def mB(m:dJ)(aw:Int)(l:List d_):List gx:=(l.filter λc=>m.captured c.table).map λc=>⟨aw,c.table,c.key,c.gone,c.val⟩
def dJ.AO(m:dJ)(t:cM):dJ × cJ:=
 let x:=m.fr t.aw t.signals
 ({x.1 with cI:=x.1.cI.rU t.changes},⟨t.aw,mB x.1 t.aw t.changes,x.2⟩)
def dJ.high(m:dJ)(t:cM):dJ × cJ:=match m.cI.high t.mark t.aw with
 | (_,none)=>(m,⟨t.aw,[],[]⟩)
 | (w,some x)=>match mi m.reqs m.cI.id m.cI.dG m.cI.last with
  | none=>({m with cI:=w},{x with notes:=[]})
  | some L=>({m with cI:=w,reqs:=L},x)
def dJ.take(m:dJ)(t:cM):dJ × (cJ × Int):=
 if eG t=false then (m,(⟨0,[],[]⟩,1))
 else if t.aw≠m.at_+1\/m.cI.waits t.kind t.mark=true then (m,(⟨0,[],[]⟩,10))
 else if t.kind=1 then let r:=({m with at_:=t.aw}:dJ).AO t;(r.1,(r.2,0))
 else if t.kind=3 then let r:=({m with at_:=t.aw}:dJ).high t;(r.1,(r.2,0))
 else ({m with at_:=t.aw,cI:=m.cI.low t.mark},(⟨t.aw,[],[]⟩,0))
def je(L:List Rq):List Rq:=L.filter λr=>!r.done
structure fI where
 k:cW
 m:dJ
 d:dH
 n:Int
def D3(m:dJ):Bool:=decide (m.cI.state=1\/m.cI.state=2\/(m.cI.state=0/\je m.reqs≠[]))
def mC(d:dH)(L:List Rq):dH:=(je L).foldl (λd r=>d.add r.id r.weight) ((L.filter (·.done)).foldl (λd r=>d.del r.id) d)
def vg(L:List Rq)(id:Int):Option Rq:=if id<1 then none else L[(id-1).toNat]?
def fI.DM(p:fI)(r:Rq):fI × (Int × Int):=
 if (p.k.nE 2 (cO p.k.g.bI+1)).2.2≠0 then ({p with k:=(p.k.nE 2 (cO p.k.g.bI+1)).1},(0,(p.k.nE 2 (cO p.k.g.bI+1)).2.2))
 else ({p with k:=(p.k.nE 2 (cO p.k.g.bI+1)).1,m:={p.m with cI:=p.m.cI.tY (cO p.k.g.bI+1) r.id r.table r.dG}},(3,0))
def fI.we(p:fI)(x:dH × Int):fI × (Int × Int):=match vg p.m.reqs x.2 with
 | none=>({p with d:=x.1},(0,0))
 | some r=>({p with d:=x.1}:fI).DM r
def fI.DL(p:fI):fI × (Int × Int):=p.we (mC p.d p.m.reqs).next
def fI.Dc(p:fI):fI × (Int × Int):=
 let y:=p.k.nE 3 p.m.cI.mark
 if y.2.2≠0 then ({p with k:=y.1},(0,y.2.2)) else ({p with k:=y.1,m:={p.m with cI:=p.m.cI.shut}},(5,0))
def fI.step(p:fI):fI × (Int × Int):=
 if D3 p.m=false then (p,(0,0))
 else if p.m.cI.state=0 then p.DL
 else if p.m.cI.state=1 then ({p with m:={p.m with cI:=p.m.cI.fill (p.k.wY p.m.cI.table p.m.cI.after p.n)}},(4,0))
 else p.Dc
section
variable {lo hi:Int} {A B:List PF} {d:DS}
def nN.mono{kW xH:Int}{g:da}(h:nN lo hi g)(h1:kW<=lo)(h2:hi<=xH):nN kW xH g:=⟨by have:=h.b0;omega,by have:=h.b1;omega,h.bI,h.dE⟩
def Laid.TF{g:da}{d:DS}{f n:Int}{es:List Φ}(h:Laid g d f n es):nN g.base (g.base+4096) g:=by
 have hle:=h.chain.sQ;rw[h.gG]at hle
 have tH:=h.fi;have hba:=h.base;refine⟨yyf _,yyf _,λs hs=>?_,λx hx=>by rw[h.dE]at hx;cases hx⟩;have:=h.chain.te.mem (x:=eI s) (vv8 hs);rw[zzn]at this
 have h1:(eI s).id=s.file:=rfl;omega
def cJ2{g:da}(hg:nN lo hi g)(h:dP lo hi A B d.R)(p:Φ)(k:Int):gw g (dz A B d) p k=(((gw g d p k).1.1,dz A B (gw g d p k).1.2),(gw g d p k).2)/\dP lo hi A B (gw g d p k).1.2.R/\nN lo hi (gw g d p k).1.1:=by
 unfold gw;split
 ·exact⟨rfl,h,hg⟩
 rw[show (dz A B d).off=d.off from rfl];cases hp:eW g d.off p with
 | error e=>exact⟨rfl,h,hg⟩
 | ok x=>
  have hx:=WZ hg hp;have h1:=hg.b0;have h2:=hg.b1;obtain⟨em,hm,p8⟩:=We hg h;simp only;rw[em];simp only;split
  ·exact⟨rfl,hm,p8⟩
  obtain⟨ea,ha⟩:=F_ hm (f:=x.file) (by omega) (by omega) (x.b.take (k.toNat % x.b.length));rw[ea];simp only;split
  ·exact⟨rfl,ha,p8⟩
  have uI:(dy g d).1.1.base=g.base:=(tV g d).2.1;refine⟨rfl,ha,p8.b0,p8.b1,p8.bI,λy hy=>?_⟩;cases hy;show (dy g d).1.1.base<=_/\_<(dy g d).1.1.base+4096;rw[uI];exact hx
end
def cV.fw(A:List PF)(k:cV):cV:={k with d:=dz A [] k.d}
structure se(A:List PF)(k:cV):Prop where
 w:dP 8192 12288 A [] k.d.R
 g:nN 8192 12288 k.g
def awg{A:List PF}{k:cV}(h:se A k)(x:cJ)(L:List Rq):(k.fw A).gD x L=((k.gD x L).1.fw A,(k.gD x L).2)/\se A (k.gD x L).1:=by
 obtain⟨e,h1,h2⟩:=HO h.g h.w (gq x);unfold cV.gD cV.fw;simp only[e];split
 ·exact⟨rfl,h1,h2⟩
 exact⟨rfl,h1,h2⟩
def cJ4{A:List PF}{k:cV}(h:se A k)(x:cJ)(n:Int):(k.fw A).ks x n=((k.ks x n).1.fw A,(k.ks x n).2)/\se A (k.ks x n).1:=by
 obtain⟨e,h1,h2⟩:=cJ2 h.g h.w (gq x) n;have e1:(k.fw A).ks x n=(λr:(da × DS) × Int=>(({k with g:=r.1.1,d:=r.1.2}:cV),r.2)) (gw k.g (dz A [] k.d) (gq x) n):=rfl;rw[e1,e];exact⟨rfl,⟨h1,h2⟩⟩
def bwo{A:List PF}{k:cV}(h:se A k)(x:cJ):(k.fw A).fX x=((k.fX x).1.fw A,(k.fX x).2)/\se A (k.fX x).1:=by
 unfold cV.fX;show (if eH x=false\/(k.aw<x.aw/\gf k.ts.length k.reqs x=none) then (k.fw A,(1:Int)) else if k.d.off=true then (k.fw A,8) else _)=_/\_;split
 ·exact⟨rfl,h⟩
 split
 ·exact⟨rfl,h⟩
 show (match k.plan with
  | []=>if k.aw<x.aw then (k.fw A).gD x _ else (k.fw A,(0:Int))
  | f::r=>_)=_/\_
 simp only;cases hp:k.plan with
 | nil=>
  simp only;split
  ·exact awg h x _
  exact⟨rfl,h⟩
 | cons f r=>
  simp only;have h':se A {k with plan:=r}:=⟨h.w,h.g⟩;obtain⟨w1,w2⟩:=awg h' x ((gf k.ts.length k.reqs x).getD []);obtain⟨t1,t2⟩:=cJ4 h' x f.keep;have w1:cV.gD {k.fw A with plan:=r} x ((gf k.ts.length k.reqs x).getD [])=_:=w1;have t1:cV.ks {k.fw A with plan:=r} x f.keep=_:=t1;simp only[show (cV.fw A k).aw=k.aw from rfl];split
  ·split
   ·exact⟨yy1 (λr:cV × Int=>(r.1,if r.2=0 then (9:Int) else r.2)) w1,w2⟩
   exact⟨rfl,h'⟩
  split
  ·exact⟨yy1 (λr:cV × Int=>(r.1,if r.2=0 then (9:Int) else r.2)) t1,t2⟩
  exact⟨rfl,h'⟩
def cDf{A:List PF}{d:DS}(h:dP 8192 12288 A [] d.R)(cU size:Int):kI (dz A [] d) cU size=(dz A [] (kI d cU size).1,(kI d cU size).2.map (cV.fw A)):=by
 unfold kI;split
 ·rfl
 obtain⟨e,_⟩:=BI (base:=8192) (size:=size) h;rw[e];cases ff d 8192 size with
 | mk d' r=>
  cases r with
  | error e=>rfl
  | ok g=>
   simp only;split
   ·rfl
   split
   ·rfl
   rfl
def cW.fw(B:List PF)(k:cW):cW:={k with d:=dz [] B k.d}
structure ug(B:List PF)(k:cW):Prop where
 w:dP 0 8192 [] B k.d.R
 g:nN 0 8192 k.g
def aRv{B:List PF}{k:cW}(h:ug B k)(t:cM):(k.fw B).gK t=((k.gK t).1.fw B,(k.gK t).2)/\ug B (k.gK t).1:=by
 obtain⟨e,h1,h2⟩:=HO h.g h.w (gz {t with aw:=cO k.g.bI+1});unfold cW.gK cW.fw;simp only;rw[show (dz [] B k.d).off=k.d.off from rfl];split
 ·exact⟨rfl,h⟩
 split
 ·exact⟨rfl,h⟩
 simp only[e];split
 ·exact⟨rfl,h1,h2⟩
 exact⟨rfl,h1,h2⟩
def bF4{lo hi:Int}{A B:List PF}{d:DS}(h:dP lo hi A B d.R){f:Int}(h1:lo<=f)(h2:f<hi)(b:Φ):dP lo hi A B (kR d f b).1.R:=by
 unfold kR;have hc:dP lo hi A B (if 0<=gH d.R f then d.cut f 0 else (d,0)).1.R:=by
  split
  ·exact (Ga h h1 h2 0).2
  exact h
 generalize (if 0<=gH d.R f then d.cut f 0 else (d,0))=c at *
 simp only;split
 ·exact hc
 have ha:=(F_ hc h1 h2 b).2;split
 ·exact ha
 exact (J3 ha h1 h2).2
def bF7{B:List PF}{k:cW}(h:ug B k):(k.fw B).jb=(k.jb.1.fw B,k.jb.2)/\ug B k.jb.1:=by
 have ho:0<=jF k/\jF k<8192:=by unfold jF;split<;>omega
 have e:=S5 h.w ho.1 ho.2 (dm (jw (cO k.g.bI) k.ts));have hr:=bF4 h.w ho.1 ho.2 (dm (jw (cO k.g.bI) k.ts));unfold cW.jb;rw[show jF (k.fw B)=jF k from rfl,show (k.fw B).g=k.g from rfl,show (k.fw B).ts=k.ts from rfl,show (k.fw B).d=dz [] B k.d from rfl];simp only[e];split
 ·exact⟨rfl,hr,h.g⟩
 exact⟨rfl,hr,h.g⟩
def cKl{B:List PF}{k:cW}(h:ug B k)(aw:Int):(k.fw B).iR aw=((k.iR aw).1.fw B,(k.iR aw).2)/\ug B (k.iR aw).1:=by
 unfold cW.iR;rw[show (k.fw B).g=k.g from rfl,show (k.fw B).d.off=k.d.off from rfl,show (k.fw B).image=k.image from rfl];split
 ·exact⟨rfl,h⟩
 split
 ·exact⟨rfl,h⟩
 have hr:∃r:cW × Int,(if k.image<aw then k.jb else (k,0))=r/\(if k.image<aw then (k.fw B).jb else (k.fw B,0))=(r.1.fw B,r.2)/\ug B r.1:=by
  refine⟨_,rfl,?_⟩;split
  ·exact bF7 h
  exact⟨rfl,h⟩
 obtain⟨r,e1,e2,h1⟩:=hr;rw[e1,e2];simp only;split
 ·exact⟨rfl,h1⟩
 obtain⟨e,h2,h3⟩:=aim h1.g h1.w aw;rw[show (r.1.fw B).g=r.1.g from rfl,show (r.1.fw B).d=dz [] B r.1.d from rfl,e];exact⟨rfl,h2,h3⟩
def cx5{lo hi:Int}{A B M:List PF}(h:dP lo hi A B M){n:Nat}{f:Int}(h1:lo<=f)(h2:f<hi):iQ (A++M++B) n f=iQ M n f:=by
 unfold iQ;rw[h.get h1 h2]
def cDh{I B:List PF}{d0:DS}(h:dP 16 4112 I [] d0.R)(hI:∀x∈I,0<=x.id)(hB:∀x∈B,8192<=x.id)(cU size:Int):
  lD (dz I B d0) cU size=(dz [] B (lD (dz I [] d0) cU size).1,(lD (dz I [] d0) cU size).2.map (cW.fw B)):=by
 have hj:∀d:DS,dz I B d=dz [] B (dz I [] d):=λd=>by unfold dz;simp
 unfold lD;split
 ·rw[hj];rfl
 have h':dP 16 (16+4096) I B d0.R:=⟨h.a,h.m,λx hx=>by have:=hB x hx;omega⟩;obtain⟨e1,w1⟩:=BI (base:=16) (size:=size) h';obtain⟨e2,w2⟩:=BI (base:=16) (size:=size) (B:=[]) (A:=I) (d:=d0) h;rw[e1,e2];cases hg:ff d0 16 size with
 | mk d' r=>
  rw[hg]at w1 w2
  cases r with
  | error e=>simp only;rw[hj];rfl
  | ok g=>
   have hw:dP 0 8192 [] B (I++d'.R):=⟨λx hx=>by (cases hx),λx hx=>by
    rcases zz6.1 hx with hx|hx
    ·have:=hI x hx;have:=h.a x hx;omega
    have:=w2.m x hx;omega,hB⟩
   have hl:lB (dz I B d').R cU.toNat=lB (dz I [] d').R cU.toNat:=by
    have hg:∀f:Int,0<=f->f<8192->iQ (I++d'.R++B) cU.toNat f=iQ (I++d'.R++[]) cU.toNat f:=λf h0 h1=>by
     have:=cx5 hw (n:=cU.toNat) h0 h1;rw[zzq]at this
     rw[this,zz2]
    show lB (I++d'.R++B) cU.toNat=lB (I++d'.R++[]) cU.toNat;unfold lB gA;rw[hg 0 (by decide) (by decide),hg 1 (by decide) (by decide)]
   simp only;rw[hl];cases oT cU.toNat (lB (dz I [] d').R cU.toNat).2.1 (cX g.bI) (fk g.bI) (lB (dz I [] d').R cU.toNat).2.2 with
   | none=>simp only;rw[hj];rfl
   | some ts=>
    simp only;split
    ·rw[hj];rfl
    rw[hj];rfl
structure mI(n:Nat)(all:List cM):Prop where
 ok:s9 n all
 len:all.length<=1000
 row:∀j,∀C∈fO n (all.take j),C.length<=1000
def mI.nil(n:Nat):mI n []:=⟨(oz.nil n).ok,by decide,λj=>by rw[List.take_nil];exact (oz.nil n).row⟩
def s9.take{n:Nat}{all:List cM}(h:s9 n all)(j:Nat):s9 n (all.take j):=
 ⟨λt ht=>h.may t (yys ht),λi hi=>by rw[uum];exact h.aw i _,λt ht=>h.ch t (yys ht)⟩
def mI.take{n:Nat}{all:List cM}(h:mI n all)(j:Nat):mI n (all.take j):=
 ⟨h.ok.take j,by rw[zzg];have:=h.len;omega,λi=>by rw[ttn];exact h.row _⟩
def mI.x9{n:Nat}{all:List cM}(h:mI n all)(n1:1<=n)(n8:n<=8):As n all:=λj hj=>by
 have ht:=h.take j;have hr:=Le ht.ok.may ht.ok.ch;have hl:=h.len;exact sS.2 ⟨⟨by omega,by omega,by rw[rn];exact n1,by rw[rn];exact n8⟩,λC hC=>⟨(hr C hC).sorted,(hr C hC).rows,h.row j C hC⟩⟩
def mI.nH{n:Nat}{all:List cM}(h:mI n all):(∀C∈fO n all,nS C)/\∀C∈fO n all,C.length<=1000:=
 ⟨Le h.ok.may h.ok.ch,λC hC=>h.row all.length C (by rw[zz0];exact hC)⟩
def mI.app{n:Nat}{all:List cM}(h:mI n all){t:cM}(hm:eG t=true)(hl:t.aw=(all.length:Int)+1)(hc:∀c∈t.changes,iq n c=true)(h1:all.length+1<=1000)(hf:mM (fO n all) t.changes=true):mI n (all++[t]):=by
 refine⟨⟨λx hx=>?_,λi hi=>?_,λx hx=>?_⟩,by rw[zza];exact h1,λj C hC=>?_⟩
 ·rcases zz6.1 hx with hx|hx
  ·exact h.ok.may x hx
  rw[zz8.1 hx];exact hm
 ·rw[List.getElem_append];split
  ·exact h.ok.aw i _
  rename_i hn;rw[zza,yyc]at hi
  simp only[List.getElem_singleton];rw[hl];omega
 ·rcases zz6.1 hx with hx|hx
  ·exact h.ok.ch x hx
  rw[zz8.1 hx];exact hc
 rcases xx6 all.length j with hj|hj
 ·rw[zz7 (by rw[zza,yyc];omega),<- G3 hc]at hC
  unfold mM at hf;rw[zzu,zz5,zz5]at hf
  exact zzp (hf.2 C hC)
 rw[xxg hj]at hC
 exact h.row j C hC
abbrev o7(t:cM)(n:Nat):cM:=⟨(n:Int)+1,t.kind,t.changes,t.signals,t.mark⟩
def cBa{t:cM}(h:eG t=true){n:Nat}(hn:n<=1000):eG (o7 t n)=true:=by
 obtain⟨_,h2⟩:=wg.1 h;exact wg.2 ⟨⟨by show 1<=(n:Int)+1;omega,by show (n:Int)+1<=_;omega⟩,h2⟩
def jg.add{n:Nat}{k:cW}{all:List cM}{tr:Nat}{I:List PF}{d0:DS}{f:Int}{lo m:Nat}(h:jg n k all tr I d0 f lo m)(ho:k.d.off=false)(ha:0<=k.d.arm)(hlen:all.length<=1000){t:cM}
  (hm:eG (o7 t all.length)=true) (hc:∀c∈t.changes,iq n c=true) (hf:mM (fO n all) t.changes=true) :
  (∃k' d1,k.gK t=(k',((all.length:Int)+1,0))/\jg n k' (all++[o7 t all.length]) tr I d1 f lo m/\k'.d.off=false/\0<=k'.d.arm/\(k.d.arm=0->k'.d.arm=0)/\k'.d.ops<=k.d.ops+2) \/
  (∃k' d1,k.gK t=(k',(0,8))/\k'.d.off=true/\k.d.arm≠0/\k'.d.ops<=k.d.ops+2/\k'.ts=k.ts/\s8 n k'.d all (some (o7 t all.length)) tr I I d1 k.g f lo m k.eh):=by
 have mQ:=h.head ho;have hd:=h.rC;have jc:d0.off=false:=by rw[hd]at ho;exact ho
 have sE:0<=d0.arm:=by rw[hd]at ha;exact ha
 have hl:=h.log.inv jc;have xL:=h.u_;have mR:=h.kV.le;have C_:=h.file;have hb:=h.base;have gR:=h.ts;have p5:=bIx hm;have tE:=RW hl (p:=gz (o7 t all.length)) (by omega) (by rw[zzn,zzs];omega) (by rw[zzn,zzs,hb];omega) sE;obtain⟨ew,hw,_⟩:=HO (A:=I) (B:=[]) (d:=d0) (h.log.IJ hb) h.cI (gz (o7 t all.length));have lN:k.gK t=(let r:=fy k.g k.d (gz (o7 t all.length));if r.2.2=0 then ({k with g:=r.1.1,d:=r.1.2,ts:=gd k.ts t.changes},((all.length:Int)+1,0)) else ({k with g:=r.1.1,d:=r.1.2},(0,r.2.2))):=by
  unfold cW.gK;rw[zzb (by simp[ho]),zzb (by rw[gR,hf,mQ];simp;omega),mQ]
 rw[lN,hd,ew];have vN:(all.drop lo).map gz++[gz (o7 t all.length)]=((all++[o7 t all.length]).drop lo).map gz:=by
  rw[xxh (by omega),zzt];rfl
 rcases tE with ⟨g',d',e,hv,ed,uH,tC,uI,UZ,nA,_,_⟩|⟨d',e,hT,Jv,ed,tC,tI⟩
 ·left;rw[e]at hw ⊢
  simp only at hw ⊢;rw[zzd trivial];rw[vN]at hv
  refine⟨_,d',rfl,⟨rfl,hw,hv.laid,uI.trans hb,h.kV.mono _,h.image,xL,h.sR,?_,C_⟩,hv.off,uH,tC,by show d'.ops<=d0.ops+2;omega⟩;show gd k.ts t.changes=_;rw[gR,G3 (t:=o7 t all.length) hc]
 right;rw[e]at hw ⊢
 simp only at hw ⊢;rw[zzb (by decide)];refine⟨_,d',rfl,Jv,tC,by show d'.ops<=d0.ops+2;omega,rfl,rfl,hw,.inr ⟨_,true,hT,λ_=>⟨_,rfl,rfl⟩⟩,hb,by have:=h.log.base;omega,C_,λee=>?_,h.kV,.inl rfl,xL,h.sR⟩;rcases gI.AU h.log ee with h1|⟨h1,_⟩
 ·exact .inl (by omega)
 exact .inr (tI ee h1)
def jg.Ea{n:Nat}{k:cW}{all:List cM}{tr:Nat}{I:List PF}{d0:DS}{f:Int}{lo m:Nat}(h:jg n k all tr I d0 f lo m){B:List PF}(hB:∀x∈B,8192<=x.id):ug B k:=by
 refine⟨⟨λx hx=>(by cases hx),λx hx=>?_,hB⟩,(h.log.IJ h.base).mono (by decide) (by decide)⟩;rw[h.rC]at hx
 have hx:x∈I++d0.R++[]:=hx;rw[zz2]at hx
 rcases zz6.1 hx with hx|hx
 ·rcases h.kV.ids x hx with e|e<;>omega
 have:=h.cI.m x hx;omega
structure KV(n tr N:Nat)(AL:List cM)(k:cW):Prop where
 mn:mI n AL
 live:∃I d0 f lo m,jg n k AL tr I d0 f lo m
 off:k.d.off=false
 arm:0<=k.d.arm
 ok:jH k N
structure KD(n tr N:Nat)(AL:List cM)(t:Option cM)(d:DS):Prop where
 mn:mI n (AL++t.toList)
 dead:∃I I' d0 g f lo m nw,s8 n d AL t tr I I' d0 g f lo m nw
 ok:d.Ok N
def KV.mono{n tr N M:Nat}{AL:List cM}{k:cW}(h:KV n tr N AL k)(hM:N<=M):KV n tr M AL k:=⟨h.mn,h.live,h.off,h.arm,h.ok.mono hM⟩
def KD.mono{n tr N M:Nat}{AL:List cM}{t:Option cM}{d:DS}(h:KD n tr N AL t d)(hM:N<=M):KD n tr M AL t d:=⟨h.mn,h.dead,h.ok.mono hM⟩
def KV.dead{n tr N:Nat}{AL:List cM}{k:cW}(h:KV n tr N AL k):KD n tr N AL none k.d:=by
 obtain⟨I,d0,f,lo,m,hL⟩:=h.live;exact⟨by rw[show AL++(none:Option cM).toList=AL from zz2 AL];exact h.mn,⟨I,I,d0,k.g,f,lo,m,k.eh,hL.dead hL.AU none⟩,h.ok.d⟩
def KV.Ea{n tr N:Nat}{AL:List cM}{k:cW}(h:KV n tr N AL k){B:List PF}(hB:∀x∈B,8192<=x.id):ug B k:=by
 obtain⟨I,d0,f,lo,m,hL⟩:=h.live;exact hL.Ea hB
def KV.head{n tr N:Nat}{AL:List cM}{k:cW}(h:KV n tr N AL k):cO k.g.bI=AL.length:=by
 obtain⟨I,d0,f,lo,m,hL⟩:=h.live;exact hL.head h.off
def KV.ts{n tr N:Nat}{AL:List cM}{k:cW}(h:KV n tr N AL k):k.ts=fO n AL:=by
 obtain⟨I,d0,f,lo,m,hL⟩:=h.live;exact hL.ts
def KV.read{n tr N:Nat}{AL:List cM}{k:cW}(h:KV n tr N AL k){j:Nat}(h1:tr<=j)(h2:j<AL.length):k.gN ((j:Int)+1)= .ok AL[j]:=by
 obtain⟨I,d0,f,lo,m,hL⟩:=h.live;have:=hL.sR;exact hL.read h.mn.ok.may (by omega) h2
def KV.add{n tr N:Nat}{AL:List cM}{k:cW}(h:KV n tr N AL k)(hl:AL.length+1<=1000){t:cM}(hm:eG t=true)(hc:∀c∈t.changes,iq n c=true):
  (∃k',k.gK t=(k',((AL.length:Int)+1,0))/\KV n tr (N+2000) (AL++[o7 t AL.length]) k'/\(k.d.arm=0->k'.d.arm=0)/\k'.d.ops<=k.d.ops+2) \/
  (∃k',k.gK t=(k',(0,8))/\k'.d.off=true/\KD n tr (N+2000) AL (some (o7 t AL.length)) k'.d/\k.d.arm≠0/\k'.d.ops<=k.d.ops+2) \/
  (k.gK t=(k,(0,7))/\mM (fO n AL) t.changes=false):=by
 obtain⟨I,d0,f,lo,m,hL⟩:=h.live;have fM:=cBa hm (n:=AL.length) (by omega);cases hf:mM (fO n AL) t.changes with
 | false=>
  refine .inr (.inr ⟨?_,rfl⟩);unfold cW.gK;rw[zzb (by rw[h.off];decide),zzd (.inl (by rw[hL.ts];exact hf))]
 | true=>
  have hT:=h.mn.app fM rfl hc hl hf;have cL:=h.ok.add hm;rcases hL.add h.off h.arm (by omega) fM hc hf with ⟨k',d1,e,l1,o1,a1,a0,p1⟩|⟨k',d1,e,o1,a0,p1,t1,hD⟩
  ·rw[e]at cL
   exact .inl ⟨k',e,⟨hT,⟨I,d1,f,lo,m,l1⟩,o1,a1,cL⟩,a0,p1⟩
  rw[e]at cL
  exact .inr (.inl ⟨k',e,o1,⟨hT,⟨I,I,d1,k.g,f,lo,m,k.eh,hD⟩,cL.d⟩,a0,p1⟩)
def KV.trim{n tr N:Nat}{AL:List cM}{k:cW}(h:KV n tr N AL k)(n1:1<=n)(n8:n<=8){aw:Nat}(hl:aw<=AL.length):
  (∃k',k.iR aw=(k',0)/\KV n (max tr aw) (N+400000) AL k'/\(k.d.arm=0->k'.d.arm=0)/\k'.d.ops<=k.d.ops+(AL.length+5)) \/
  (∃k' e,k.iR aw=(k',e)/\e≠0/\k'.d.off=true/\KD n (max tr aw) (N+400000) AL none k'.d/\k.d.arm≠0/\k'.d.ops<=k.d.ops+(AL.length+5)):=by
 obtain⟨I,d0,f,lo,m,hL⟩:=h.live;have cL:=h.ok.trim (aw:Int);rcases hL.trim h.off h.arm h.mn.len (h.mn.x9 n1 n8) hl with ⟨k',I',d1,f',kW,m',e,hm',hL',o1,a1,a2,p1,z1⟩|⟨k',e',I1,I',d1,g1,f',kW,m',nw,e,he,o1,a0,p1,hD⟩
 ·rw[e]at cL
  exact .inl ⟨k',e,⟨h.mn,⟨I',d1,f',kW,m',hL'⟩,o1,a1,cL⟩,λha=>by omega,p1⟩
 rw[e]at cL
 exact .inr ⟨k',e',e,he,o1,⟨by rw[show AL++(none:Option cM).toList=AL from zz2 AL];exact h.mn,⟨I1,I',d1,g1,f',kW,m',nw,hD⟩,cL.d⟩,a0,p1⟩
def KD.open{n tr N:Nat}{AL:List cM}{t:Option cM}{d:DS}(h:KD n tr N AL t d)(n1:1<=n)(n8:n<=8)(keep:Ω){size:Int}(s0:64<=size)(s1:size<=65536){B:List PF}(hB:∀x∈B,8192<=x.id):
  ∃k' fx,lD (dz [] B (d.eO keep)) n size=(dz [] B k'.d,.ok (k'.fw B))/\KV n tr (N+200000) fx k'/\k'.d.arm=0/\k'.d.ops<=d.ops+1/\(fx=AL\/∃x,t=some x/\fx=AL++[x]) /\
   (∀d' g,ff (dz [] B (d.eO keep)) 16 size=(d',.ok g)->(cX g.bI).length<=1001):=by
 obtain⟨I,I',d0,g,f,lo,m,nw,hD⟩:=h.dead;have p_:∀l,l=[]\/(∃x,t=some x/\l=[x])->mI n (AL++l):=λl hl=>by
  rcases hl with rfl|⟨x,rfl,rfl⟩
  ·rw[zz2];have:=h.mn.take AL.length
   rwa [ww3]at this
  exact h.mn
 have IS:=p_ [] (.inl rfl);rw[zz2]at IS
 obtain⟨k',oB,I2,d2,f2,m2,e,hL,o1,a1,p1,ha⟩:=hD.open n1 n8 keep (λl hl=>⟨(p_ l hl).ok,(p_ l hl).x9 n1 n8⟩) IS.len s0 s1;have hT:mI n oB:=by
  rcases ha with rfl|⟨x,hx,rfl⟩
  ·exact IS
  exact p_ [x] (.inr ⟨x,hx,rfl⟩)
 have mr:=h.ok.eO keep;have hg:=WM e;have p6:∃J d3,d.eO keep=dz J [] d3/\dP 16 4112 J [] d3.R/\∀x∈J,0<=x.id:=by
  refine⟨e_ I' keep,d0.eO (keep.drop I'.length),by rw[hD.rC,Vm],hD.cI.eO keep _ [],λx hx=>?_⟩;obtain⟨y,hy,ey⟩:=DR hx;have:=h.ok.ids y (by rw[hD.rC];show y∈I'++d0.R++[];simp[hy]);omega
 obtain⟨J,d3,e3,w3,j3⟩:=p6;have IT:=cDh w3 j3 hB (n:Int) size;rw[<- e3,e]at IT
 have hj:∀d:DS,dz J B d=dz [] B (dz J [] d):=λd=>by unfold dz;simp
 rw[hj,<- e3]at IT
 refine⟨k',oB,IT,⟨hT,⟨I2,d2,f2,lo,m2,hL⟩,o1,by rw[a1];exact yyf _,?_⟩,a1,p1,ha,?_⟩
 ·have FK:=Ku mr (by have:=mr.D4;omega) hg;have Ba:=Gu (base:=16) (size:=size) mr;rw[hg]at Ba
  exact⟨FK.mono (by omega),Ba.mono (by omega),by rw[hL.ts];exact hT.nH.1,by rw[hL.ts];exact hT.nH.2,by rw[hL.ts,rn];exact n1,by rw[hL.ts,rn];exact n8⟩
 intro d' g' xF;have xZ:dP 16 (16+4096) J B d3.R:=⟨w3.a,w3.m,λx hx=>by have:=hB x hx;omega⟩;obtain⟨e4,_⟩:=BI (base:=16) (size:=size) xZ;obtain⟨e5,_⟩:=BI (base:=16) (size:=size) w3;rw[e3,<- hj]at xF
 rw[e3,e5]at hg
 rw[e4]at xF
 have h1:=yy1 Prod.snd hg;have h2:=yy1 Prod.snd xF;simp only at h1 h2;rw[h1]at h2
 cases h2;rw[hL.log.gG,zzn,zzs];have:=hT.len;omega
def gI.wd{g:da}{d d':DS}{f n:Int}{es:List Φ}(h:gI g d f n es)(hR:d'.R=d.R)(ho:d'.off=false):gI g d' f n es:=(h.laid.s4 hR).inv ho
def cFz(d:DS)(f:Int)(p:Nat):∃i,(d.remove f).1.ops=d.ops+i/\({d with ops:=p}:DS).remove f=({(d.remove f).1 with ops:=p+i},(d.remove f).2):=by
 unfold DS.remove;rw[show ({d with ops:=p}:DS).find f=d.find f from rfl,show ({d with ops:=p}:DS).cK.off=d.cK.off from rfl];split
 ·exact⟨0,rfl,rfl⟩
 split
 ·exact⟨1,rfl,rfl⟩
 exact⟨1,rfl,rfl⟩
def bw3(d:DS)(f n:Int)(p:Nat):∃i,(d.cut f n).1.ops=d.ops+i/\({d with ops:=p}:DS).cut f n=({(d.cut f n).1 with ops:=p+i},(d.cut f n).2):=by
 unfold DS.cut;rw[show ({d with ops:=p}:DS).find f=d.find f from rfl,show ({d with ops:=p}:DS).cK.off=d.cK.off from rfl];split
 ·exact⟨0,rfl,rfl⟩
 split
 ·exact⟨0,rfl,rfl⟩
 split
 ·exact⟨1,rfl,rfl⟩
 exact⟨1,rfl,rfl⟩
def Wc(g:da)(d:DS)(p:Nat):∃i,(dy g d).1.2.ops=d.ops+i/\dy g {d with ops:=p}=(((dy g d).1.1,{(dy g d).1.2 with ops:=p+i}),(dy g d).2):=by
 unfold dy;cases g.dE with
 | none=>exact⟨0,rfl,rfl⟩
 | some x=>
  simp only;split
  ·obtain⟨i,e1,e2⟩:=cFz d x.file p;exact⟨i,e1,by rw[e2]⟩
  obtain⟨i,e1,e2⟩:=bw3 d x.file x.oJ p;exact⟨i,e1,by rw[e2]⟩
def Ck.wo{g:da}{d:DS}{f n:Int}{es:List Φ}{q:Φ}(h:Ck g d f n es q)(a:Int)(p:Nat):Ck g {d with arm:=a,ops:=p} f n es q:=by
 refine⟨h.off,h.dE.s4 rfl,λb hb tG=>?_,?_⟩
 ·obtain⟨g2,d2,e,l2,a1,a2,a3,a4⟩:=h.m2 b hb tG;obtain⟨i,e1,e2⟩:=Wc g {d with arm:=b} p;rw[e]at e1 e2
  have e1:d2.ops=d.ops+i:=e1;exact⟨g2,{d2 with ops:=p+i},e2,l2.wd rfl l2.off,a1,a2,by show p+i=p+1;omega,a4⟩
 obtain⟨d2,e,r1,r2,r3⟩:=h.m1;obtain⟨i,e1,e2⟩:=Wc g {d with arm:=1} p;rw[e]at e1 e2
 have e1:d2.ops=d.ops+i:=e1;exact⟨{d2 with ops:=p+i},e2,r1,r2,by show p+i=p+1;omega⟩
def St.wo{g:da}{d:DS}{es:List Φ}{m:Option Φ}(h:St g d es m)(a:Int)(p:Nat):St g {d with arm:=a,ops:=p} es m:=by
 rcases h with ⟨h1,h2⟩|⟨⟨q,h1⟩,h2⟩|⟨h1,q,w,h2,h3⟩
 ·exact .inl ⟨h1.wd rfl h1.off,h2⟩
 ·exact .inr (.inl ⟨⟨q,h1.wo a p⟩,h2⟩)
 exact .inr (.inr ⟨h1,q,w,h2.s4 rfl,h3⟩)
def jf.wd{n:Nat}{k:cV}{xs:List cJ}{m:Option cJ}(h:jf n k xs m){d':DS}(hR:d'.R=k.d.R)(ho:d'.off=k.d.off):jf n {k with d:=d'} xs m:=by
 have e:d'={k.d with arm:=d'.arm,ops:=d'.ops}:=by
  cases d';simp only at hR ho;subst hR ho;rfl
 rw[e];exact⟨h.st.wo _ _,h.may,h.run,h.len,h.Lr⟩
def jg.wd{n:Nat}{k:cW}{all:List cM}{tr:Nat}{I:List PF}{d0:DS}{f:Int}{lo m:Nat}(h:jg n k all tr I d0 f lo m){d':DS}(hR:d'.R=k.d.R):jg n {k with d:=d'} all tr I {d' with R:=d0.R} f lo m:=by
 have e:d'.R=I++d0.R++[]:=by rw[hR,h.rC];rfl
 refine⟨?_,h.cI,h.log.s4 rfl,h.base,h.kV,h.image,h.u_,h.sR,h.ts,h.file⟩;cases d';simp only at e;subst e;rfl
def s8.wd{n:Nat}{d:DS}{all:List cM}{t:Option cM}{tr:Nat}{I I':List PF}{d0:DS}{g:da}{f:Int}{lo m:Nat}{nw:Int}(h:s8 n d all t tr I I' d0 g f lo m nw){d':DS}(hR:d'.R=d.R):s8 n d' all t tr I I' {d' with R:=d0.R} g f lo m nw:=by
 have e:d'.R=I'++d0.R++[]:=by rw[hR,h.rC];rfl
 refine⟨?_,h.cI,?_,h.base,h.f16,h.file,h.empty,h.kV,h.x9,h.u_,h.sR⟩
 ·cases d';simp only at e;subst e;rfl
 rcases h.log with hl|⟨q,w,hT,hw⟩
 ·exact .inl (hl.s4 rfl)
 exact .inr ⟨q,w,hT.s4 rfl,hw⟩
def DS.Ok.wd{d d':DS}{N:Nat}(h:d.Ok N)(hR:d'.R=d.R)(a0:0<=d'.arm)(a1:d'.arm<=9223372036854775807):d'.Ok N:=⟨by rw[hR];exact h.sorted,by rw[hR];exact h.ids,by rw[hR];exact h.safe,by rw[hR];exact h.len,a0,a1⟩
def KV.wd{n tr N:Nat}{AL:List cM}{k:cW}(h:KV n tr N AL k){d':DS}(hR:d'.R=k.d.R)(ho:d'.off=false)(a0:0<=d'.arm)(a1:d'.arm<=9223372036854775807):KV n tr N AL {k with d:=d'}:=by
 obtain⟨I,d0,f,lo,m,hL⟩:=h.live;exact⟨h.mn,⟨I,_,f,lo,m,hL.wd hR⟩,ho,a0,⟨h.ok.g,h.ok.d.wd hR a0 a1,h.ok.rows,h.ok.len,h.ok.n1,h.ok.n8⟩⟩
def KD.wd{n tr N:Nat}{AL:List cM}{t:Option cM}{d d':DS}(h:KD n tr N AL t d)(hR:d'.R=d.R)(a0:0<=d'.arm)(a1:d'.arm<=9223372036854775807):KD n tr N AL t d':=by
 obtain⟨I,I',d0,g,f,lo,m,nw,hD⟩:=h.dead;exact⟨h.mn,⟨I,I',_,g,f,lo,m,nw,hD.wd hR⟩,h.ok.wd hR a0 a1⟩
def DV:∀(A B:List iC) (L:List Rq),ga L (A++B)=(ga L A).bind λL'=>ga L' B
 | [],B,L=>rfl
 | n::A,B,L=>by
  rw[zzv];simp only[ga];cases oR L n with
  | none=>rfl
  | some L'=>exact DV A B L'
def cCf{A B:List iC}{L R:List Rq}(h:ga L (A++B)=some R):∃L',ga L A=some L'/\ga L' B=some R:=by
 rw[DV]at h
 cases hA:ga L A with
 | none=>rw[hA]at h;cases h
 | some L'=>rw[hA]at h;exact⟨L',rfl,h⟩
structure G6(n:Nat)(k k':cV)(xs:List cJ)(x:cJ)(L:List Rq)(e:Int):Prop where
 ops:k'.d.ops<=k.d.ops+3
 plan:∀f∈k'.plan,f∈k.plan
 pl:k'.plan.length<=k.plan.length
 arm:k.d.arm=0->k'.d.arm=0
 res:(e=0/\k'.d.off=false/\(∃dq,jf n k' dq none/\dq.length<=xs.length+1)/\((k.aw<x.aw/\k'.tr=((fF k.ts x.ops).1,L,x.aw))\/(¬k.aw<x.aw/\k'.tr=k.tr))) \/
  (e=9/\k'.d.off=false/\(∃dq,jf n k' dq none/\dq.length<=xs.length+1)/\((k.aw<x.aw/\k'.tr=((fF k.ts x.ops).1,L,x.aw))\/k'.tr=k.tr)) \/
  (e=8/\k'.d.off=true/\k.d.arm≠0/\(∃m',jf n k' xs m'/\∀y,m'=some y->y=x/\k.aw<x.aw)/\k'.tr=k.tr)
def bwl{n:Nat}{k:cV}{xs:List cJ}(h:jf n k xs none)(ha:0<=k.d.arm)(ho:k.d.off=false)(hl:xs.length<=900)(eg:∀f∈k.plan,jm f=true){x:cJ}{L:List Rq}(hm:eH x=true)(hf:k.aw<x.aw->gf n k.reqs x=some L):
  G6 n k (k.fX x).1 xs x L (k.fX x).2:=by
 have h1:¬(eH x=false\/(k.aw<x.aw/\gf k.ts.length k.reqs x=none)):=by
  rintro (h1|⟨h1,h2⟩)
  ·rw[hm]at h1;cases h1
  rw[h.len,hf h1]at h2;cases h2
 have hw:∀k0:cV,jf n k0 xs none->k0.d=k.d->k0.reqs=k.reqs->k0.aw=k.aw->k0.ts=k.ts->k.aw<x.aw->∀b:Int,(b=0\/b=9)->(∀f∈k0.plan,f∈k.plan)->k0.plan.length<=k.plan.length->G6 n k (k0.gD x L).1 xs x L (if (k0.gD x L).2=0 then b else (k0.gD x L).2):=by
  intro k0 h0 e1 e2 e3 e4 dj b hb nZ p';rcases cU5 h0 (by rw[e1];exact ha) (by rw[e1];exact ho) hl (L:=L) (by rw[e2];exact hf dj) (by rw[e3];exact dj) with ⟨w1,w2,w3,w4,w5,w6,w7⟩|⟨w1,w2,w3,w4,w5,w6,w7⟩
  ·rw[w1,zzd rfl];refine⟨by rw[e1]at w7;exact w7,by rw[w4];exact nZ,by rw[w4];exact p',λa=>w6 (by rw[e1];exact a),?_⟩;rcases hb with rfl|rfl
   ·exact .inl ⟨rfl,w5,⟨_,w2,by rw[zza];exact zzi _⟩,.inl ⟨dj,by rw[w3,e4]⟩⟩
   exact .inr (.inl ⟨rfl,w5,⟨_,w2,by rw[zza];exact zzi _⟩,.inl ⟨dj,by rw[w3,e4]⟩⟩)
  rw[w1,zzb (by decide)];have Br:k0.tr=k.tr:=by unfold cV.tr;rw[e2,e3,e4]
  exact⟨by rw[e1]at w7;exact w7,by rw[w4];exact nZ,by rw[w4];exact p',λa=>by rw[e1]at w6;exact absurd a w6,.inr (.inr ⟨rfl,w5,by rw[e1]at w6;exact w6,⟨_,w2,λy hy=>by cases hy;exact⟨rfl,dj⟩⟩,w3.trans Br⟩)⟩
 unfold cV.fX;rw[zzb h1,zzb (by rw[ho];decide)];simp only;cases hp:k.plan with
 | nil=>
  simp only;by_cases dj:k.aw<x.aw
  ·rw[zzd dj,h.len,hf dj];have:=hw k h rfl rfl rfl rfl dj 0 (.inl rfl) (λf hf=>hf) (zzi _);have e:(if (k.gD x L).2=0 then (0:Int) else (k.gD x L).2)=(k.gD x L).2:=by split<;>omega
   rw[e]at this
   exact this
  rw[zzb dj];exact⟨Nat.le_add_right _ _,λf hf=>hf,zzi _,id,.inl ⟨rfl,ho,⟨xs,h,Nat.le_succ _⟩,.inr ⟨dj,rfl⟩⟩⟩
 | cons f r=>
  simp only;have p9:jf n {k with plan:=r} xs none:=h.plan r;have rK:∀g∈r,g∈k.plan:=λg hg=>by rw[hp];exact .tail _ hg
  have hlen:r.length<=k.plan.length:=by rw[hp];simp
  have hid:G6 n k {k with plan:=r} xs x L 9:=⟨by show k.d.ops<=_;omega,rK,hlen,id,.inr (.inl ⟨rfl,ho,⟨xs,p9,by omega⟩,.inr rfl⟩)⟩;split
  ·by_cases dj:k.aw<x.aw
   ·rw[zzd dj,h.len,hf dj];exact hw {k with plan:=r} p9 rfl rfl rfl rfl dj 9 (.inr rfl) rK hlen
   rw[zzb dj];exact hid
  by_cases h2:f.kind=2/\k.aw<x.aw
  ·rw[zzd h2];have tL:0<=f.keep:=by
    have:=eg f (by rw[hp];exact .head _);unfold jm at this;rw[zzw]at this
    omega
   obtain⟨j1,j2,j3,j4,j5⟩:=cJ3 p9 ha ho hl hm tL;rcases j5 with ⟨q1,q2,q3⟩|⟨q1,q2,q3⟩
   ·rw[q1,zzd rfl];exact⟨yyw j4 (by show k.d.ops+2<=k.d.ops+3;omega),by rw[j3];exact rK,by rw[j3];exact hlen,q3,.inr (.inl ⟨rfl,q2,⟨xs,j1,by omega⟩,.inr j2⟩)⟩
   rw[q1,zzb (by decide)];exact⟨yyw j4 (by show k.d.ops+2<=k.d.ops+3;omega),by rw[j3];exact rK,by rw[j3];exact hlen,λa=>absurd a q3,.inr (.inr ⟨rfl,q2,q3,⟨none,j1,λy hy=>by cases hy⟩,j2⟩)⟩
  rw[zzb h2];exact hid
def Kk:∀(n:Nat) (l:Ω),l.Nodup->(∀x∈l,1<=x/\x<=(n:Int))->l.length<=n
 | 0,l,_,h=>by
  cases l with
  | nil=>exact zzi _
  | cons x l=>have:=h x (.head _);omega
 | n+1,l,hd,h=>by
  by_cases hm:((n+1:Nat):Int)∈l
  ·have h1:=Kk n (l.erase ((n+1:Nat):Int)) (hd.erase _) λx hx=>by
    have h2:=hd.mem_erase_iff.1 hx;have:=h x h2.2;have:=h2.1;omega
   rw[List.length_erase_of_mem hm]at h1
   omega
  have:=Kk n l hd λx hx=>by
   have:=h x hx;have:x≠((n+1:Nat):Int):=λe=>hm (e▸hx);omega
  omega
def dH.Ok.len{d:dH}(h:d.Ok):d.l.length<=64:=by
 have:=Kk 64 (d.l.map Prod.fst) h.nd λx hx=>by
  obtain⟨m,hm,rfl⟩:=zzx.1 hx;have:=h.w m hm;omega
 rw[zzn]at this;exact this
def bF9:w9.Ok:=⟨by decide,by decide,by decide,by decide,λ_=>rfl,by simp,by simp⟩
def dH.Ok.add{d:dH}(h:d.Ok)(id w:Int):(d.add id w).Ok:=by
 unfold dH.add;split
 ·exact h
 rename_i hr;split
 ·exact h
 rename_i hf;have h1:=h.oZ;refine⟨h.mg,by show d.at_<((d.l++[(id,w)]).length:Nat);rw[zza];simp;omega,h.Gd,h.Ge,h.neg,λm hm=>?_,?_⟩
 ·rcases zz6.1 hm with hm|hm
  ·exact h.w m hm
  rw[zz8.1 hm];simp only;omega
 show ((d.l++[(id,w)]).map Prod.fst).Nodup;rw[zzt,ttf];refine⟨h.nd,by simp,λa ha b hb=>?_⟩;obtain⟨m,hm,rfl⟩:=zzx.1 ha;have hb:b=id:=by simpa using hb
 subst hb;have:=xxu.1 hf m hm;simpa using this
def dH.Ok.del{d:dH}(h:d.Ok)(id:Int):(d.del id).Ok:=by
 unfold dH.del;split
 ·exact h
 rename_i i hf;have hi:i<d.l.length:=(yyn.1 hf).1;have h0:=h.mg;have h1:=h.oZ;have hl:(d.l.eraseIdx i).length=d.l.length-1:=by rw[uuv,zzd hi]
 refine⟨?_,?_,?_,?_,λhn=>?_,λm hm=>h.w m (vvl hm),?_⟩
 ·simp only;split<;>omega
 ·simp only[hl];split<;>omega
 ·simp only;split
  ·exact yyf _
  exact h.Gd
 ·simp only;split
  ·decide
  exact h.Ge
 ·simp only at hn ⊢;split
  ·rfl
  split at hn
  ·omega
  exact h.neg hn
 simp only;exact h.nd.sublist ((List.eraseIdx_sublist _ _).map _)
def dH.Ok.pl{d:dH}(h:d.Ok)(dO:d.l≠[]):0<=d.place/\d.place<d.l.length/\d.mA∈d.l:=by
 have eg:0<=d.place/\d.place<d.l.length:=by
  have:=h.neg;have:=h.mg;have:=h.oZ;have:0<d.l.length:=wwb.2 dO;unfold dH.place;split
  ·split<;>omega
  omega
 refine⟨eg.1,eg.2,?_⟩;unfold dH.mA;rw[zzc (show d.place.toNat<d.l.length by omega)];exact zzh _
def dH.Ok.next{d:dH}(h:d.Ok):d.next.1.Ok:=by
 unfold dH.next;split
 ·exact h
 rename_i dO;obtain⟨h1,h2,h3⟩:=h.pl dO;have hw:=h.w _ h3;have pw:=h.Gd;have vS:=h.Ge;refine⟨by simp only;omega,by simp only;omega,?_,?_,λhn=>?_,h.w,h.nd⟩
 ·simp only;split<;>omega
 ·simp only;split<;>omega
 simp only at hn;omega
def cB7{d:dH}(h:d.Ok)(dO:d.l≠[]):d.next.2=d.mA.1/\d.mA∈d.l:=by
 unfold dH.next;rw[zzb dO];exact⟨rfl,(h.pl dO).2.2⟩
def cB8(d:dH):d.next.1.l=d.l:=by
 unfold dH.next;split<;>rfl
def SU:∀(L:List Rq) {d:dH},d.Ok->(L.foldl (λd r=>d.del r.id) d).Ok
 | [],_,h=>h
 | r::L,_,h=>SU L (h.del r.id)
def RN:∀(L:List Rq) {d:dH},d.Ok->(L.foldl (λd r=>d.add r.id r.weight) d).Ok
 | [],_,h=>h
 | r::L,_,h=>RN L (h.add r.id r.weight)
def cF4{d:dH}(h:d.Ok)(L:List Rq):(mC d L).Ok:=RN _ (SU _ h)
def bFw(d:dH)(id:Int):∀m∈(d.del id).l,m∈d.l:=λm hm=>by
 unfold dH.del at hm;split at hm
 ·exact hm
 exact vvl hm
def SV:∀(L:List Rq) (d:dH),∀m∈(L.foldl (λd r=>d.del r.id) d).l,m∈d.l
 | [],_,m,h=>h
 | r::L,d,m,h=>bFw d r.id m (SV L (d.del r.id) m h)
def aRx(d:dH)(id w:Int):∀m∈(d.add id w).l,m∈d.l\/m=(id,w):=λm hm=>by
 unfold dH.add at hm;split at hm
 ·exact .inl hm
 split at hm
 ·exact .inl hm
 rcases zz6.1 hm with hm|hm
 ·exact .inl hm
 exact .inr (zz8.1 hm)
def aRy(d:dH)(id w:Int):∀m∈d.l,m∈(d.add id w).l:=λm hm=>by
 unfold dH.add;split
 ·exact hm
 split
 ·exact hm
 exact yyo _ hm
def RO:∀(L:List Rq) (d:dH),∀m∈(L.foldl (λd r=>d.add r.id r.weight) d).l,m∈d.l\/∃r∈L,m=(r.id,r.weight)
 | [],_,m,h=>.inl h
 | r::L,d,m,h=>by
  rcases RO L (d.add r.id r.weight) m h with h|⟨x,hx,e⟩
  ·rcases aRx d r.id r.weight m h with h|h
   ·exact .inl h
   exact .inr ⟨r,.head _,h⟩
  exact .inr ⟨x,.tail _ hx,e⟩
def RP:∀(L:List Rq) (d:dH),∀m∈d.l,m∈(L.foldl (λd r=>d.add r.id r.weight) d).l
 | [],_,m,h=>h
 | r::L,d,m,h=>RP L (d.add r.id r.weight) m (aRy d r.id r.weight m h)
def cF5(d:dH)(L:List Rq):∀m∈(mC d L).l,m∈d.l\/∃r∈je L,m=(r.id,r.weight):=λm hm=>by
 rcases RO _ _ m hm with h|h
 ·exact .inl (SV _ _ m h)
 exact .inr h
def aRw(d:dH){id w:Int}(h1:1<=id/\id<=64)(h2:1<=w/\w<=8):∃m∈(d.add id w).l,m.1=id:=by
 unfold dH.add;rw[zzb (by omega)];cases hf:Bx d id with
 | some i=>
  obtain⟨hi,hk,_⟩:=yyn.1 hf;exact⟨_,zzh hi,zzp hk⟩
 | none=>exact⟨(id,w),by simp,rfl⟩
def gm.at{L:List Rq}(h:gm L){r:Rq}(hr:r∈L):1<=r.id/\r.id<=L.length/\r.id<=64/\1<=r.weight/\r.weight<=8/\0<=r.table/\r.table<8/\0<=r.dG/\r.dG<=1099511627776:=by
 obtain⟨i,hi,rfl⟩:=yyl hr;obtain⟨⟨h1,h2,h3,h4,h5,h6,h7,h8,h9,vJ,A2⟩,_⟩:=h.2 i hi;have:=h.1;exact⟨by omega,by omega,by omega,h4,h5,h2,h3,h8,h9⟩
def cF3{d:dH}{L:List Rq}(hL:gm L)(h:je L≠[]):(mC d L).l≠[]:=by
 unfold mC;generalize (L.filter (·.done)).foldl (λd r=>d.del r.id) d=d1;have kf:∀r∈je L,r∈L:=λr hr=>(yy0.1 hr).1;generalize je L=O at *
 match O,h with
 | r::O,_=>
  have ha:=hL.at (kf r (.head _));obtain⟨m,hm,_⟩:=aRw d1 (id:=r.id) (w:=r.weight) (by omega) (by omega);have:=RP O (d1.add r.id r.weight) m hm;intro e;rw[xxq]at e
  rw[e]at this
  cases this
structure fI.Good(p:fI)(N:Nat):Prop where
 reqs:gm p.m.reqs
 t1:1<=p.m.tables/\p.m.tables<=8
 mg:0<=p.m.at_/\p.m.at_<=1099511627776
 wn:p.m.cI.n<=64
 rows:p.m.cI.rows.length<=64
 wid:0<=p.m.cI.id/\p.m.cI.id<=64
 d:p.d.Ok
 ids:∀m∈p.d.l,m.1<=p.m.reqs.length
 n:1<=p.n/\p.n<=64
 src:jH p.k N
def fI.Good.row{p:fI}{N:Nat}(h:p.Good N):(mC p.d p.m.reqs).Ok/\∀m∈(mC p.d p.m.reqs).l,m.1<=p.m.reqs.length:=by
 refine⟨cF4 h.d _,λm hm=>?_⟩;rcases cF5 _ _ m hm with hm|⟨r,hr,rfl⟩
 ·exact h.ids m hm
 exact (h.reqs.at (yy0.1 hr).1).2.1
def fI.Good.nI{p:fI}{N:Nat}(h:p.Good N)(ho:je p.m.reqs≠[]):∃r,vg p.m.reqs (mC p.d p.m.reqs).next.2=some r/\r∈p.m.reqs/\r.id=(mC p.d p.m.reqs).next.2:=by
 obtain⟨h1,h2⟩:=h.row;have dO:=cF3 (d:=p.d) h.reqs ho;obtain⟨e,hm⟩:=cB7 h1 dO;have ha:=h1.w _ hm;have hb:=h2 _ hm;rw[e];generalize (mC p.d p.m.reqs).mA.1=id at *
 have dj:(id-1).toNat<p.m.reqs.length:=by omega
 refine⟨p.m.reqs[(id-1).toNat],?_,zzh _,?_⟩
 ·unfold vg;rw[zzb (by omega),zzc dj]
 have:=(h.reqs.2 _ dj).1.1;omega
def aRr{L L':List Rq}{t w a:Int}(h:pL L t w a=some L'):L'.length=L.length+1:=by
 unfold pL at h;split at h
 ·cases h;simp
 cases h
def a_3{L L':List Rq}{id c:Int}{dn:Bool}(h:mi L id c dn=some L'):L'.length=L.length:=by
 unfold mi at h;split at h
 ·split at h
  ·split at h
   ·cases h
   cases h;exact yyh
  cases h
 cases h
def aRs(m:dJ)(s:Η)(aw:Int):m.reqs.length<=(m.accept s aw).1.length/\(gm m.reqs->gm (m.accept s aw).1):=by
 unfold dJ.accept;split
 ·exact⟨zzi _,id⟩
 split
 ·exact⟨zzi _,id⟩
 split
 ·exact⟨zzi _,id⟩
 rename_i L hL;exact⟨by have:=aRr hL;simp only;omega,λ_=>Cu hL⟩
def HJ(aw:Int):∀(l:Ψ) (m:dJ),m.reqs.length<=(m.fr aw l).1.reqs.length/\(gm m.reqs->gm (m.fr aw l).1.reqs)/\(m.fr aw l).1.cI=m.cI/\(m.fr aw l).1.tables=m.tables/\(m.fr aw l).1.late=m.late/\(m.fr aw l).1.at_=m.at_
 | [],m=>⟨zzi _,id,rfl,rfl,rfl,rfl⟩
 | s::l,m=>by
  obtain⟨a,b⟩:=aRs m s aw;obtain⟨c,d,e⟩:=HJ aw l {m with reqs:=(m.accept s aw).1};exact⟨yyw a c,λh=>d (b h),e⟩
def cJp{m:dJ}{t:cM}(h:gm m.reqs)(hr:m.cI.rows.length<=64)(hn:m.cI.n<=64)(hi:0<=m.cI.id/\m.cI.id<=64)(ha:0<=m.at_/\m.at_<=1099511627776):
  m.reqs.length<=(m.take t).1.reqs.length/\gm (m.take t).1.reqs/\(m.take t).1.tables=m.tables/\(0<=(m.take t).1.at_/\(m.take t).1.at_<=1099511627776)/\(m.take t).1.cI.n<=64/\(m.take t).1.cI.rows.length<=64/\0<=(m.take t).1.cI.id/\(m.take t).1.cI.id<=64:=by
 have uX:m.reqs.length<=m.reqs.length/\gm m.reqs/\m.tables=m.tables/\(0<=m.at_/\m.at_<=1099511627776)/\m.cI.n<=64/\m.cI.rows.length<=64/\0<=m.cI.id/\m.cI.id<=64:=⟨zzi _,h,rfl,ha,hn,hr,hi⟩;unfold dJ.take;split
 ·exact uX
 rename_i hm;obtain⟨m1,_⟩:=my (show eG t=true by cases hq:eG t with
  | true=>rfl
  | false=>exact absurd hq hm)
 split
 ·exact uX
 split
 ·unfold dJ.AO;simp only;obtain⟨a,b,c,d,_,f⟩:=HJ t.aw t.signals {m with at_:=t.aw};generalize ({m with at_:=t.aw}:dJ).fr t.aw t.signals=y at *
  refine⟨a,b h,d,by rw[f];exact⟨by show 0<=t.aw;omega,by show t.aw<=_;omega⟩,?_⟩;rw[c];unfold dM.rU;simp only;split
  ·exact⟨hn,yyw (yyp _ _) hr,hi⟩
  exact⟨hn,hr,hi⟩
 split
 ·unfold dJ.high;simp only;have FM:∀w o,m.cI.high t.mark t.aw=(w,o)->w.n<=64/\w.rows.length<=64/\0<=w.id/\w.id<=64:=λw o e=>by
   unfold dM.high at e;split at e
   ·cases e;exact⟨hn,hr,hi⟩
   cases e;exact⟨hn,zz4 _,yyf _,show (0:Int)<=64 by decide⟩
  split
  ·exact⟨zzi _,h,rfl,⟨by show 0<=t.aw;omega,by show t.aw<=_;omega⟩,hn,hr,hi⟩
  rename_i w x e;have hw:=FM _ _ e;split
  ·exact⟨zzi _,h,rfl,⟨by show 0<=t.aw;omega,by show t.aw<=_;omega⟩,hw⟩
  rename_i L hL;exact⟨by have:=a_3 hL;simp only at this ⊢;omega,EU hL,rfl,⟨by show 0<=t.aw;omega,by show t.aw<=_;omega⟩,hw⟩
 refine⟨zzi _,h,rfl,⟨by show 0<=t.aw;omega,by show t.aw<=_;omega⟩,?_⟩;show (m.cI.low t.mark).n<=64/\(m.cI.low t.mark).rows.length<=64/\0<=(m.cI.low t.mark).id/\(m.cI.low t.mark).id<=64;unfold dM.low;split<;>exact⟨hn,hr,hi⟩
def Ring(b cap:Nat)(L:Ψ):zC:=jT λc:Nat=>jT λfirst:Nat=>jT λA:Ψ=>
 zH (A.length=cap/\0<cap/\cap<=64/\first<cap/\L.length<=cap/\∀i,i<L.length->A[(first+i) % cap]?=L[i]?)
 [.pt b [.slice (some ⟨c,0,none⟩) cap cap,Γ first,Γ L.length] 209,.pt c (A.map .string) 9]
def Ring.open{W w:Ζ}{b cap:Nat}{L:Ψ}{l:Β}(h:SL W (.ob (Ring b cap L)::l) w):∃(c first:Nat) (A:Ψ),
  (A.length=cap/\0<cap/\cap<=64/\first<cap/\L.length<=cap/\∀i,i<L.length->A[(first+i) % cap]?=L[i]?) /\
  SL W (.pt b [.slice (some ⟨c,0,none⟩) cap cap,Γ first,Γ L.length] 209::.pt c (A.map .string) 9::l) w:=by
 simpa only[Ring,SL.ex,SL.fact,zzv,zzq] using h
def Ring.close{W w:Ζ}{b c first cap:Nat}{L A:Ψ}{l:Β}(hA:A.length=cap/\0<cap/\cap<=64/\first<cap/\L.length<=cap/\∀i,i<L.length->A[(first+i) % cap]?=L[i]?)
  (h:SL W (.pt b [.slice (some ⟨c,0,none⟩) cap cap,Γ first,Γ L.length] 209::.pt c (A.map .string) 9::l) w):SL W (.ob (Ring b cap L)::l) w:=by
 simp only[Ring,SL.ex,SL.fact,zzv,zzq];exact⟨c,first,A,hA,h⟩
def Wi{cap first i j:Nat}(hi:i<cap)(hj:j<cap)(h:(first+i) % cap=(first+j) % cap):i=j:=by
 have h1:=uuc (first+i) cap;have h2:=uuc (first+j) cap;rw[h]at h1
 rcases Nat.lt_trichotomy ((first+i) / cap) ((first+j) / cap) with hd|hd|hd
 ·have:=uu1 cap hd;simp only[Nat.succ_eq_add_one,Nat.mul_add,wwq]at this;omega
 ·rw[hd]at h1;omega
 have:=uu1 cap hd;simp only[Nat.succ_eq_add_one,Nat.mul_add,wwq]at this;omega
def ZS(b c cap first n i:Nat)(xB:0<cap)(ph:cap<=64)(hf:first<cap)(hi:i<=64):
  SP 215 [Δ b,Γ i] [.pt b [.slice (some ⟨c,0,none⟩) cap cap,Γ first,Γ n] 209]
   (cE (Γ (((first+i) % cap:Nat):Int)) [.pt b [.slice (some ⟨c,0,none⟩) cap cap,Γ first,Γ n] 209]):=by
 refine Enzz λW F w hS=>?_;apply cN9;delta bW;refine Gn λw hS=>?_;(exact cF hS)
def yw(b cap:Nat)(L:Ψ):SP 61 [Δ b] [.ob (Ring b cap L)] (cE (Γ L.length) [.ob (Ring b cap L)]):=by
 refine Enzz λW F w hS=>?_;apply cTl;delta bW;obtain⟨c,first,A,hA,hS⟩:=Ring.open hS;refine Gp ?_;have hS:=Ring.close hA hS;(exact cF hS)
def qt(b cap:Nat)(L:Ψ):SP 76 [Δ b] [.ob (Ring b cap L)] (cE (Γ cap) [.ob (Ring b cap L)]):=by
 refine Enzz λW F w hS=>?_;apply cTz;delta bW;obtain⟨c,first,A,hA,hS⟩:=Ring.open hS;refine Gp ?_;have hS:=Ring.close hA hS;(exact cF hS)
def YY(b cap:Nat)(L:Ψ)(s:Η):SP 153 [Δ b,.string s] [.ob (Ring b cap L)]
  (cE (.bool (decide (L.length<cap))) [.ob (Ring b cap (if L.length<cap then L++[s] else L))]):=by
 refine Enzz λW F w hS=>?_;apply cMh;delta aI bW c_ aW b_ cz ai;obtain⟨c,first,A,hA,hS⟩:=Ring.open hS;obtain⟨h1,h2,h3,h4,h5,h6⟩:=hA;refine Gn λw hS=>?_;refine za (λh=>?_) (λh=>?_)
 ·have dj:¬L.length<cap:=by omega
  simp only[dj,wwd,wwz];have hS:=Ring.close ⟨h1,h2,h3,h4,h5,h6⟩ hS;(exact cF hS)
 have dj:L.length<cap:=by omega
 have hk:(first+L.length) % cap<cap:=vvj _ h2;simp only[dj,wwm,ttb];refine Gn λw hS=>?_;refine Cg (ZS b c cap first L.length L.length h2 h3 h4 (by omega)) λw hS=>?_;refine zG hk ?_;refine Zu hS (cs:=A.map .string) Xu (u:=.string (A[(first+L.length) % cap]'(by omega))) ?_ rfl ?_
 ·simp[h1,hk]
 clear hS;intro w hS;refine Gn λw hS=>?_;have hS:=Ring.close (L:=L++[s]) (A:=A.set ((first+L.length) % cap) s) (b:=b) (c:=c) (first:=first) (cap:=cap) ⟨by simp[h1],h2,h3,h4,by simp;omega,λi hi=>?_⟩ (l:=F) (by simpa [vvr] using hS)
 ·(exact cF hS)
 by_cases he:i=L.length
 ·subst he;simp[h1,hk]
 have xH:i<L.length:=by simp at hi;omega
 rw[List.getElem?_set_ne (λe=>he (Wi (by omega) dj e.symm)),h6 i xH,zzm xH]
def Wk(n:Nat)(h1:1<=n)(h2:n<=64):SP 140 [Γ n] [] (λv post=>∃b:Nat,v= .tuple #[Δ b,Γ 0]/\post=[.ob (Ring b n [])]):=by
 refine Enzz λW F w hS=>?_;apply cL4;delta aI ai cY cR bR;refine Gp ?_;refine Χ ?_;refine Gp ?_;refine Χ ?_;refine XC hS (zzi _) (by omega) (by omega) ?_;clear hS;intro c w hS;refine Gp ?_;refine⟨_,rfl,zE hS ?_⟩;clear hS;intro b w hS;have hS:=Ring.close (A:=List.replicate n ⟨#[]⟩) (L:=[]) (first:=0) (cap:=n) (b:=b) (c:=c) (l:=F) ⟨by simp,by omega,by omega,by omega,by simp,λi hi=>by simp at hi⟩ (by simpa [cQ] using hS);exact⟨_,⟨b,rfl,rfl⟩,hS⟩
def WV(b cap:Nat):SP 130 [Δ b] [.ob (Ring b cap [])] (cE (.tuple #[.string ⟨#[]⟩,.bool false]) [.ob (Ring b cap [])]):=by
 refine Enzz λW F w hS=>?_;apply aiw;delta aI bW ai;obtain⟨c,first,A,hA,hS⟩:=Ring.open hS;refine Gp ?_;refine za (λh=>?_) (λh=>absurd rfl h);have hS:=Ring.close hA hS;(exact cF hS)
def Ud{cap first:Nat}{s:Η}{L A:Ψ}(h4:first<cap)(h6:∀i,i<(s::L).length->A[(first+i) % cap]?=(s::L)[i]?):(A.map Value.string)[first]?=some (.string s):=by
 have h0:=h6 0 (by simp);simp only[xxp,wwt h4,List.getElem?_cons_zero]at h0;simp[h0]
def WW(b cap:Nat)(s:Η)(L:Ψ):SP 130 [Δ b] [.ob (Ring b cap (s::L))] (cE (.tuple #[.string s,.bool true]) [.ob (Ring b cap (s::L))]):=by
 refine Enzz λW F w hS=>?_;apply aiw;delta aI bW ai;obtain⟨c,first,A,hA,hS⟩:=Ring.open hS;obtain⟨h1,h2,h3,h4,h5,h6⟩:=hA;refine Gp ?_;refine za (λh=>by simp at h;omega) (λh=>?_);refine Gn λw hS=>?_;refine zG h4 ?_;refine zT hS (cs:=A.map .string) (.tl .hd) (v:=.string s) (by simpa using Ud h4 h6) ?_;have hS:=Ring.close ⟨h1,h2,h3,h4,h5,h6⟩ hS;(exact cF hS)
def cD9(b cap:Nat):SP 154 [Δ b] [.ob (Ring b cap [])] (cE (.tuple #[.string ⟨#[]⟩,.bool false]) [.ob (Ring b cap [])]):=by
 refine Enzz λW F w hS=>?_;apply ai0;delta bW c_ ai;refine Cg (WV b cap) λw hS=>?_;(exact cF hS)
def W1(b cap:Nat)(s:Η)(L:Ψ):SP 154 [Δ b] [.ob (Ring b cap (s::L))] (cE (.tuple #[.string s,.bool true]) [.ob (Ring b cap L)]):=by
 refine Enzz λW F w hS=>?_;apply ai0;delta bW c_ ai;refine Cc (WW b cap s L) ?_;clear hS;rintro v post ⟨rfl,rfl⟩ w hS;try simp only[app]at hS
 obtain⟨c,first,A,hA,hS⟩:=Ring.open hS;obtain⟨h1,h2,h3,h4,h5,h6⟩:=hA;simp only[zzj]at hS h5;refine Gn λw hS=>?_;refine zG h4 ?_;refine Zu hS (cs:=A.map .string) Xu (u:=.string s) (by simpa using Ud h4 h6) rfl ?_;clear hS;intro w hS;refine Cg (ZS b c cap first (L.length+1) 1 h2 h3 h4 (by omega)) λw hS=>?_;have hS:=Ring.close (L:=L) (A:=A.set first ⟨#[]⟩) (b:=b) (c:=c) (first:=(first+1) % cap) (cap:=cap) (l:=F) ⟨by simp[h1],h2,h3,vvj _ h2,by omega,λi hi=>?_⟩ (by simpa [vvr] using hS)
 ·(exact cF hS)
 have e1:((first+1) % cap+i) % cap=(first+(i+1)) % cap:=by
  rw[Nat.mod_add_mod];congr 1;omega
 have e2:first≠(first+(i+1)) % cap:=λe=>by
  have:=Wi (cap:=cap) (first:=first) (i:=0) (j:=i+1) h2 (by omega) (by rw[xxp,wwt h4];exact e);omega
 rw[e1,List.getElem?_set_ne e2,h6 (i+1) (by simp;omega),List.getElem?_cons_succ]
def Gate(g b cap out:Nat)(L:Ψ):zC:=zH (L.length+out<=cap/\cap<=64) [.pt g [Δ b,Γ out] 144,.ob (Ring b cap L)]
def Gate.open{W w:Ζ}{g b cap out:Nat}{L:Ψ}{l:Β}(h:SL W (.ob (Gate g b cap out L)::l) w):(L.length+out<=cap/\cap<=64) /\
  SL W (.pt g [Δ b,Γ out] 144::.ob (Ring b cap L)::l) w:=by
 simpa only[Gate,SL.fact,zzv,zzq] using h
def Gate.close{W w:Ζ}{g b cap out:Nat}{L:Ψ}{l:Β}(hA:L.length+out<=cap/\cap<=64)
  (h:SL W (.pt g [Δ b,Γ out] 144::.ob (Ring b cap L)::l) w):SL W (.ob (Gate g b cap out L)::l) w:=by
 simp only[Gate,SL.fact,zzv,zzq];exact⟨hA,h⟩
def bWq(n:Nat)(h1:1<=n)(h2:n<=64):SP 141 [Γ n] [] (λv post=>∃g b:Nat,v= .tuple #[Δ g,Γ 0]/\post=[.ob (Gate g b n 0 [])]):=by
 refine Enzz λW F w hS=>?_;apply cL5;delta aI ai cY;refine Cc (Wk n h1 h2) ?_;clear hS;rintro v post ⟨b,rfl,rfl⟩ w hS;(try simp only[app]at hS);refine Gp ?_
 refine za (λh1=>absurd rfl h1) (λh1=>?_);refine Gp ?_;refine⟨_,rfl,zE hS ?_⟩;clear hS;intro g w hS;have hS:=Gate.close (out:=0) ⟨by simp,h2⟩ hS;exact⟨_,⟨g,b,rfl,rfl⟩,hS⟩
def zN(g b cap out:Nat)(L:Ψ):SP 63 [Δ g] [.ob (Gate g b cap out L)] (cE (Γ ((cap-L.length-out:Nat):Int)) [.ob (Gate g b cap out L)]):=by
 refine Enzz λW F w hS=>?_;apply cTm;delta bW aW b_;obtain⟨hA,hS⟩:=Gate.open hS;refine Gn λw hS=>?_;refine Cg (qt b cap L) λw hS=>?_;refine Cg (yw b cap L) λw hS=>?_;have hS:=Gate.close (l:=F) hA (by exact aR hS);rw[show (cap:Int)-(L.length:Int)-(out:Int)=((cap-L.length-out:Nat):Int) by omega];(exact cF hS)
def bWv(g b cap out:Nat)(L:Ψ)(s:Η)(h:L.length+out<cap):SP 220 [Δ g,.string s] [.ob (Gate g b cap out L)] (cE (.bool true) [.ob (Gate g b cap out (L++[s]))]):=by
 refine Enzz λW F w hS=>?_;apply cOf;delta aI bW cz ai;refine Cg (zN g b cap out L) λw hS=>?_;refine za (λh1=>?_) (λh1=>by omega);obtain⟨hA,hS⟩:=Gate.open hS;refine Gp ?_;refine Cc (YY b cap L s) ?_;clear hS;rintro v post ⟨rfl,rfl⟩ w hS;try simp only[app]at hS
 have dj:L.length<cap:=by omega
 simp only[dj,wwm]at hS;simp only[dj,ttb];have hS:=Gate.close (l:=F) (g:=g) (b:=b) (out:=out) (cap:=cap) (L:=L++[s]) ⟨by simp;omega,hA.2⟩ (by exact aR hS);(exact cF hS)
def bWt(g b cap out:Nat):SP 293 [Δ g] [.ob (Gate g b cap out [])] (cE (.tuple #[.string ⟨#[]⟩,.bool false]) [.ob (Gate g b cap out [])]):=by
 refine Enzz λW F w hS=>?_;apply ai2;delta bW c_ ai;obtain⟨hA,hS⟩:=Gate.open hS;refine Gp ?_;refine Cg (cD9 b cap) λw hS=>?_;have hS:=Gate.close (l:=F) hA (by exact aR hS);(exact cF hS)
def bWu(g b cap out:Nat)(s:Η)(L:Ψ):SP 293 [Δ g] [.ob (Gate g b cap out (s::L))] (cE (.tuple #[.string s,.bool true]) [.ob (Gate g b cap (out+1) L)]):=by
 refine Enzz λW F w hS=>?_;apply ai2;delta bW c_ ai;obtain⟨hA,hS⟩:=Gate.open hS;simp only[zzj]at hA;refine Gp ?_;refine Cg (W1 b cap s L) λw hS=>?_;have hS:=Gate.close (l:=F) (g:=g) (b:=b) (out:=out+1) (cap:=cap) (L:=L) ⟨by omega,hA.2⟩ (by exact aR hS);(exact cF hS)
def oI(n:Int)(out:Nat):Nat:=(min (max n 0) (out:Int)).toNat
def bWn(n:Int)(out:Nat):min (max n 0) (out:Int)=(oI n out:Int):=by unfold oI;omega
def TC(n:Int)(out:Nat):oI n out<=out:=by unfold oI;omega
def QF(n:Int)(g b cap out:Nat)(L:Ψ):SP 231 [Δ g,Γ n] [.ob (Gate g b cap out L)] (cE (Γ (oI n out:Int)) [.ob (Gate g b cap (out-oI n out) L)]):=by
 refine Enzz λW F w hS=>?_;apply cOr;delta bW c_ ai;obtain⟨hA,hS⟩:=Gate.open hS;have hg:=TC n out;refine Gn λw hS=>?_;rw[bWn]at hS ⊢
 rw[show (out:Int)-(oI n out:Int)=((out-oI n out:Nat):Int) by omega]at hS
 have hS:=Gate.close (l:=F) (g:=g) (b:=b) (cap:=cap) (L:=L) (out:=out-oI n out) ⟨by omega,hA.2⟩ (by exact aR hS);(exact cF hS)
def bWs(g b cap out:Nat)(L:Ψ):SP 62 [Δ g] [.ob (Gate g b cap out L)] (cE (Γ out) [.ob (Gate g b cap out L)]):=by
 refine Enzz λW F w hS=>?_;apply ai8;delta bW;obtain⟨hA,hS⟩:=Gate.open hS;refine Gp ?_;have hS:=Gate.close (l:=F) hA (by exact aR hS);(exact cF hS)
abbrev rr(b m j:Int):Prop:=1<=b/\b<=1073741824/\b<=m/\m<=1073741824/\0<=j/\j<=1073741824
def w8(k:Nat)(b m:Int):Int:=min (b*2 ^ k) m
def AS(k b m:Int):Int:=if rr b m 0 then w8 k.toNat b m else 0
def rZ(k b m j draw:Int):Int:=if rr b m j then AS k b m+max draw 0 % (j+1) else 0
def KH(b:Int)(hb:0<=b){i k:Nat}(h:i<=k):b*2 ^ i<=b*2 ^ k:=
 Int.mul_le_mul_of_nonneg_left (by
  have:=vv3 (by decide:0<2) h;have h1:((2:Int) ^ i)=((2 ^ i:Nat):Int):=by simp
  have h2:((2:Int) ^ k)=((2 ^ k:Nat):Int):=by simp
  rw[h1,h2];omega) hb
def SY{k:Nat}{b m:Int}(hb:1<=b){i:Nat}(hi:i<=k)(h:m<=b*2 ^ i):w8 k b m=m:=by
 have:=KH b (by omega) hi;unfold w8;exact Int.min_eq_right (by omega)
def y3(b m j:Int):SP 90 [Γ b,Γ m,Γ j] [] (cE (.bool (decide (rr b m j))) []):=by
 refine Enzz λW F w hS=>?_;apply cUe;delta aI cz ai;have hF:∀{w:Ζ},¬rr b m j->SL W F w->∃post,cE (.bool (decide (rr b m j))) [] (.bool false) post/\SL W (app post F) w:=λh hS=>⟨_,⟨by rw[zz3 h],rfl⟩,hS⟩;(repeat (first|refine Gp ?_|refine Gw λw hS=>?_|refine za (λ_=>hF (by omega) hS) (λ_=>?_)|refine za (λ_=>?_) (λ_=>hF (by omega) hS)))
 have e:decide (j<=1073741824)=decide (rr b m j):=by rw[yyj];omega
 rw[e];exact⟨_,⟨rfl,rfl⟩,hS⟩
def bFy{k:Nat}{b m:Int}:w8 k b m<=m:=Int.min_le_right _ _
def SZ{k b m:Int}:0<=AS k b m/\AS k b m<=1073741824:=by
 unfold AS;split
 ·rename_i h;have h1:=@bFy k.toNat b m;have h2:=KH b (by omega) (zz4 k.toNat);rw[Int.pow_zero,Int.mul_one]at h2
  refine⟨?_,by omega⟩;unfold w8;exact Int.le_min.2 ⟨by omega,by omega⟩
 omega
def cHd{a:Int}{n:Nat}{K:Ε->Prop}(hn:n<=30)(hr : -9223372036854775808<=a*2 ^ n/\a*2 ^ n<=9223372036854775807)(h:K (Γ (a*2 ^ n))):zc .shl (Γ a) (Γ (n:Int)) K:=by
 refine⟨Γ (a*2 ^ n),?_,h⟩;have xN:min n 64=n:=xxw (by omega);show (if ((n:Nat):Int)<0 then none else some (Γ (IntKind.i64.wrap (a*2 ^ (min ((n:Nat):Int).toNat 64)))))=_;rw[zzb (by omega),zzz,xN,xx1 _ hr]
def cHf{a:Int}{n:Nat}{K:Ε->Prop}(hn:n<=30)(h:K (Γ (a / 2 ^ n))):zc .shr (Γ a) (Γ (n:Int)) K:=by
 refine⟨Γ (a / 2 ^ n),?_,h⟩;have xN:min n 64=n:=xxw (by omega);have hp:(0:Int)<2 ^ n:=Int.pow_pos (by decide);show (if ((n:Nat):Int)<0 then none else some (Γ (a.fdiv (2 ^ (min ((n:Nat):Int).toNat 64)))))=_;rw[zzb (by omega),zzz,xN,vv0 _ (by omega)]
def QA(k b m:Int):SP 371 [Γ k,Γ b,Γ m] [] (cE (Γ (AS k b m)) []):=by
 refine Enzz λW F w hS=>?_;apply cRu;delta aI cP ai;refine Gp ?_;refine Cc (y3 b m 0) ?_;clear hS;rintro v post ⟨rfl,rfl⟩ w hS;try simp only[app]at hS
 unfold AS;by_cases hm:rr b m 0
 ·rw[zzd hm,zzo hm];obtain⟨h1,h2,h3,h4,_⟩:=hm;refine Gp ?_;refine zp ?_;refine Gp ?_;have ek:max k 0=(k.toNat:Int):=by omega
  rw[ek];generalize k.toNat=n at *
  refine za (λhk=>?_) (λhk=>?_)
  ·have h5:(1073741824:Int)<=b*2 ^ 30:=by
    have:(1:Int)*2 ^ 30<=b*2 ^ 30:=Int.mul_le_mul_of_nonneg_right h1 (by decide);omega
   rw[SY h1 (i:=30) (by omega) (by omega)];exact⟨_,⟨rfl,rfl⟩,hS⟩
  have hp:(0:Int)<2 ^ n:=Int.pow_pos (by decide);refine cHf (by omega) ?_;refine cA (λhg=>?_) (λhg=>?_)
  ·have:m<b*2 ^ n:=(Int.ediv_lt_iff_lt_mul hp).1 hg;rw[SY h1 (zzi n) (by omega)];exact⟨_,⟨rfl,rfl⟩,hS⟩
  have hle:b*2 ^ n<=m:=(Int.le_ediv_iff_mul_le hp).1 (by omega);have h0:=KH b (by omega) (zz4 n);rw[Int.pow_zero,Int.mul_one]at h0
  refine cHd (by omega) (by omega) ?_;have e:w8 n b m=b*2 ^ n:=by unfold w8;exact Int.min_eq_left hle
  rw[e];exact⟨_,⟨rfl,rfl⟩,hS⟩
 rw[zzb hm,zz3 hm];refine Gp ?_;refine zq ?_;exact⟨_,⟨rfl,rfl⟩,hS⟩
def awd{k b m j draw:Int}:0<=rZ k b m j draw/\rZ k b m j draw<=2147483648:=by
 unfold rZ;split
 ·rename_i h;obtain⟨_,_,_,_,h5,h6⟩:=h;have h1:=@SZ k b m;have h2:=vvh (max draw 0) (b:=j+1) (by omega);have h3:=uud (max draw 0) (b:=j+1) (by omega);omega
 omega
def cUr(k b m j draw:Int):SP 341 [Γ k,Γ b,Γ m,Γ j,Γ draw] [] (cE (Γ (rZ k b m j draw)) []):=by
 refine Enzz λW F w hS=>?_;apply cRd;delta cP ai;refine Cc (y3 b m j) ?_;clear hS;rintro v post ⟨rfl,rfl⟩ w hS;try simp only[app]at hS
 unfold rZ;by_cases hm:rr b m j
 ·rw[zzd hm,zzo hm];obtain⟨h1,h2,h3,h4,h5,h6⟩:=hm;refine Gp ?_;refine zp ?_;refine Gn λw hS=>?_;refine Zt (by omega) ?_;rw[xx2 (by omega)];have h7:=vvh (max draw 0) (b:=j+1) (by omega);have h8:=uud (max draw 0) (b:=j+1) (by omega);have h9:=@SZ k b m;generalize max draw 0 % (j+1)=r at *
  refine Cg (QA k b m) λw hS=>?_;(exact cF hS)
 rw[zzb hm,zz3 hm];refine Gp ?_;refine zq ?_;exact⟨_,⟨rfl,rfl⟩,hS⟩
def sr(now:Int):Int:=max 0 (min now 1125899906842624)
def Sl(now:Int):0<=sr now/\sr now<=1125899906842624:=by unfold sr;omega
abbrev rtc(b m j f u:Int):Ξ:=[Γ b,Γ m,Γ j,Γ f,Γ u]
abbrev jV(p:Nat)(b m j f u:Int):Μ:=.pt p (rtc b m j f u) 218
def cKd(b m j:Int):SP 142 [Γ b,Γ m,Γ j] [] (λv post=>if rr b m j then ∃p:Nat,v= .tuple #[Δ p,Γ 0]/\post=[jV p b m j 0 0] else v= .tuple #[.pointer none,Γ 1]/\post=[]):=by
 refine Enzz λW F w hS=>?_;apply cL6;delta cP ai cY;refine Cc (y3 b m j) ?_;clear hS;rintro v post ⟨rfl,rfl⟩ w hS;try simp only[app]at hS
 by_cases hm:rr b m j
 ·rw[zzo hm];refine Gp ?_;refine zp ?_;refine Gp ?_;refine⟨_,rfl,zE hS λp w hS=>?_⟩;exact⟨[jV p b m j 0 0],(zzd hm).mpr ⟨p,rfl,rfl⟩,hS⟩
 rw[zz3 hm];refine Gp ?_;refine zq ?_;exact⟨[],(zzb hm).mpr ⟨rfl,rfl⟩,hS⟩
def cKp(b m j k draw:Int):SP 296 [agg [Γ b,Γ m,Γ j],Γ k,Γ draw] [] (cE (Γ (rZ k b m j draw)) []):=by
 refine Enzz λW F w hS=>?_;apply cQa;delta a_;refine⟨_,rfl,zE hS λp w hS=>?_⟩;refine Gp ?_;refine Cg (cUr k b m j draw) λw hS=>?_;(exact cF hS)
def cJ9(p:Nat)(b m j f u now draw:Int)(hf:0<=f/\f<=1000000000):SP 233 [Δ p,Γ now,Γ draw] [jV p b m j f u] (cE (Γ (sr now+rZ (f+1) b m j draw)) [jV p b m j (f+1) (sr now+rZ (f+1) b m j draw)]):=by
 refine Enzz λW F w hS=>?_;apply cOt;delta bW c_ b_ ai;have h1:=Sl now;have h2:=@awd (f+1) b m j draw;have e:min (max now 0) 1125899906842624=sr now:=by unfold sr;omega
 refine Gn λw hS=>?_;rw[e];refine yC (vs:=[Γ b,Γ m,Γ j]) hS Xh rfl (λi v h=>?_) ?_
 ·match i,h with
  | 0,h=>exact h
  | 1,h=>exact h
  | 2,h=>exact h
  | i+3,h=>simp at h
 refine Gp ?_;refine Cg (cKp b m j (f+1) draw) λw hS=>?_;(exact cF hS)
def cJt(p:Nat)(b m j f u:Int):SP 232 [Δ p] [jV p b m j f u] (cE (.tuple #[]) [jV p b m j 0 0]):=by
 refine Enzz λW F w hS=>?_;apply cOs;delta c_ ai;refine Gn λw hS=>?_;(exact cF hS)
def Qj(p:Nat)(b m j f u now:Int):SP 132 [Δ p,Γ now] [jV p b m j f u] (cE (.bool (decide (u<=now))) [jV p b m j f u]):=by
 refine Enzz λW F w hS=>?_;apply cLx;delta bW;refine Gp ?_;(exact cF hS)
def Qi(p:Nat)(b m j f u:Int):SP 66 [Δ p] [jV p b m j f u] (cE (Γ f) [jV p b m j f u]):=by
 refine Enzz λW F w hS=>?_;apply cTp;delta bW;refine Gp ?_;(exact cF hS)
def ZW(p:Nat)(b m j f u:Int):SP 67 [Δ p] [jV p b m j f u] (cE (Γ u) [jV p b m j f u]):=by
 refine Enzz λW F w hS=>?_;apply cTq;delta bW;refine Gp ?_;(exact cF hS)
def n_:cJ:=⟨0,[],[]⟩
def jn(a x:cJ):cJ:=⟨x.aw,a.ops++x.ops,a.notes++x.notes⟩
def km(l:List cJ):cJ:=l.foldl jn n_
structure vp(n:Nat)(x:cJ):Prop where
 may:eH x=true
 cU:sZ n x=true
 ops:x.ops.length<=64
 iX:x.notes.length<=4
def fQ:Int->List cJ->Prop
 | _,[]=>True
 | b,x::l=>b<x.aw/\fQ x.aw l
def fQ.mono{b c:Int}(h:c<=b):∀{l:List cJ},fQ b l->fQ c l
 | [],_=>trivial
 | _::_,⟨h1,h2⟩=>⟨by omega,h2⟩
def iW(b:Int)(l:List cJ):Int:=l.foldl (λ_ x=>x.aw) b
def cz1(b:Int)(l:List cJ)(x:cJ):iW b (l++[x])=x.aw:=by simp[iW]
def J8(b:Int)(l l':List cJ):iW b (l++l')=iW (iW b l) l':=by simp[iW]
def fQ.append{l':List cJ}:∀{l:List cJ} {b:Int},fQ b (l++l')↔fQ b l/\fQ (iW b l) l'
 | [],b=>⟨λh=>⟨trivial,h⟩,λh=>h.2⟩
 | x::l,b=>by
  show b<x.aw/\fQ x.aw (l++l')↔(b<x.aw/\fQ x.aw l)/\fQ (iW x.aw l) l';rw[fQ.append (l:=l) (b:=x.aw)];exact⟨λ⟨a,b,c⟩=>⟨⟨a,b⟩,c⟩,λ⟨⟨a,b⟩,c⟩=>⟨a,b,c⟩⟩
def fQ.last{b:Int}:∀{l:List cJ},fQ b l->b<=iW b l:=λ{l}=>by
 induction l generalizing b with
 | nil=>intro _;exact yyf _
 | cons x l ih=>rintro ⟨h1,h2⟩;have:=ih h2;show b<=iW x.aw l;omega
def fQ.snoc{b:Int}{l:List cJ}{x:cJ}(h:fQ b l)(hx:iW b l<x.aw):fQ b (l++[x]):=fQ.append.2 ⟨h,hx,trivial⟩
structure nO(n:Nat)(a:cJ)(k:Nat):Prop where
 l0:0<=a.aw
 l1:a.aw<=1099511627776
 pos:0<k->1<=a.aw
 iX:a.notes.length<=4*k
 Km:∀m∈a.notes,jx m a.aw=true
 len:a.ops.length<=64*k
 ops:∀o∈a.ops,kY o a.aw=true
 nH:∀o∈a.ops,o.table<(n:Int)
def cA6{o:gx}{l l':Int}(h:kY o l=true)(hl:l<=l'):kY o l'=true:=by
 unfold kY at *
 rw[zzw]at *
 exact⟨h.1,by omega,h.2.2⟩
def cA5{m:iC}{l l':Int}(h:jx m l=true)(hl:l<=l'):jx m l'=true:=by
 unfold jx at *
 rw[zzw]at *
 obtain⟨h1,h2,⟨a1,a2,a3,a4,a5,a6,a7,a8⟩|h3⟩:=h
 ·exact⟨h1,h2,.inl ⟨a1,a2,a3,a4,a5,a6,by omega,a8⟩⟩
 exact⟨h1,h2,.inr h3⟩
def vp.iff{n:Nat}{x:cJ}(h:vp n x):(1<=x.aw/\x.aw<=1099511627776)/\(∀o∈x.ops,kY o x.aw=true)/\(∀m∈x.notes,jx m x.aw=true)/\∀o∈x.ops,o.table<(n:Int):=by
 obtain⟨⟨h1,h2,_⟩,h3,h4⟩:=oQ.1 h.may;have ht:=h.cU;unfold sZ at ht;rw[zz5]at ht
 exact⟨⟨h1,h2⟩,h3,h4,λo ho=>zzp (ht o ho)⟩
def nO.zero(n:Nat):nO n n_ 0:=⟨yyf _,by show (0:Int)<=_;decide,λh=>by omega,zzi _,λo h=>(by cases h),zzi _,λo h=>(by cases h),λo h=>(by cases h)⟩
def nO.step{n:Nat}{a x:cJ}{k:Nat}(h:nO n a k)(hx:vp n x)(hl:a.aw<x.aw):nO n (jn a x) (k+1):=by
 obtain⟨⟨h1,h2⟩,h3,uC,h4⟩:=hx.iff;have h5:=hx.ops;have h6:=h.len;have h7:=hx.iX;have h8:=h.iX;refine⟨by show 0<=x.aw;omega,h2,λ_=>h1,by show (a.notes++x.notes).length<=_;rw[zza];omega,λm hm=>?_,by show (a.ops++x.ops).length<=_;rw[zza];omega,λo ho=>?_,λo ho=>?_⟩
 ·rcases zz6.1 hm with hm|hm
  ·exact cA5 (h.Km m hm) (by show a.aw<=x.aw;omega)
  exact uC m hm
 ·rcases zz6.1 ho with ho|ho
  ·exact cA6 (h.ops o ho) (by show a.aw<=x.aw;omega)
  exact h3 o ho
 rcases zz6.1 ho with ho|ho
 ·exact h.nH o ho
 exact h4 o ho
def czj(l:List cJ)(x:cJ):km (l++[x])=jn (km l) x:=by simp[km]
def czk{l:List cJ}{i:Nat}(h:i<l.length):km (l.take (i+1))=jn (km (l.take i)) l[i]:=by
 rw[zze h,czj]
def nO.fold{n:Nat}:∀(l:List cJ) {a:cJ} {k:Nat},nO n a k->(∀x∈l,vp n x)->fQ a.aw l->nO n (l.foldl jn a) (k+l.length)
 | [],a,k,h,_,_=>h
 | x::l,a,k,h,hx,⟨Ds,uT⟩=>by
  have:=nO.fold l (h.step (hx x (.head _)) Ds) (λy hy=>hx y (.tail _ hy)) uT;rw[zzj,show k+(l.length+1)=k+1+l.length by omega];exact this
def DJ{n:Nat}{l:List cJ}(h:∀x∈l,vp n x)(hr:fQ 0 l):nO n (km l) l.length:=by
 have:=nO.fold (n:=n) l (nO.zero n) h hr;rw[yya]at this
 exact this
def VI(l:List cJ):(km l).aw=iW 0 l:=by
 suffices h:∀(l:List cJ) (a:cJ),(l.foldl jn a).aw=iW a.aw l from h l n_
 intro l;induction l with
 | nil=>intro a;rfl
 | cons x l ih=>intro a;exact ih (jn a x)
def nO.may{n k:Nat}{a:cJ}(h:nO n a k)(hk:0<k)(IP:k<=64):eH a=true/\sZ n a=true:=by
 have h1:=h.pos hk;have h2:=h.l1;have h3:=h.len;have h4:=h.iX;refine⟨oQ.2 ⟨⟨h1,h2,by omega,by omega⟩,h.ops,h.Km⟩,?_⟩;unfold sZ;rw[zz5];exact λo ho=>zzo (h.nH o ho)
structure fA where
 k:cV
 L:List cJ
 out:Nat
 fW:Int
 eQ:Int
 held:cJ
 n:Nat
structure dW where
 cap:Nat
 cN:Nat
 b:Int
 m:Int
 j:Int
def fA.ready(s:fA)(now:Int):Bool:=if 0<s.n then decide (s.eQ<=now) else decide (0<s.L.length)
def fA.hold(s:fA)(cN:Nat):fA:=if s.n=0 then {s with L:=s.L.drop cN,out:=s.out+min cN s.L.length,held:=km (s.L.take cN),n:=min cN s.L.length} else s
def fA.hand(c:dW)(s:fA)(now draw:Int):fA × Int × Int:=
 if (s.k.fX s.held).2=0 then ({s with k:=(s.k.fX s.held).1,out:=s.out-oI s.n s.out,fW:=0,eQ:=0,held:=n_,n:=0},6,0)
 else if (s.k.fX s.held).2=9 then ({s with k:=(s.k.fX s.held).1,fW:=s.fW+1,eQ:=sr now+rZ (s.fW+1) c.b c.m c.j draw},7,0)
 else ({s with k:=(s.k.fX s.held).1},0,(s.k.fX s.held).2)
def fA.step(c:dW)(s:fA)(now draw:Int):fA × Int × Int:=if s.ready now=true then (s.hold c.cN).hand c now draw else (s,0,0)
structure pK(c:dW)(cU:Nat)(s:fA)(f:Nat):Prop where
 AM:1<=c.cap
 cap:c.cap<=64
 wk:1<=c.cN
 cN:c.cN<=64
 it:∀x∈s.L,vp cU x
 j7:fQ 0 s.L
 room:s.L.length+s.out<=c.cap
 out:s.out=s.n
 held:(s.n=0/\s.held=n_)\/(0<s.n/\nO cU s.held s.n)
 f0:0<=s.fW
 f1:s.fW<=f
def pK.mono{c:dW}{cU f f':Nat}{s:fA}(h:pK c cU s f)(hf:f<=f'):pK c cU s f':=⟨h.AM,h.cap,h.wk,h.cN,h.it,h.j7,h.room,h.out,h.held,h.f0,by have:=h.f1;omega⟩
def fQ.take{b:Int}{l:List cJ}(h:fQ b l)(i:Nat):fQ b (l.take i):=(fQ.append.1 ((yyk i l).symm▸h:fQ b (l.take i++l.drop i))).1
def fQ.drop{b:Int}{l:List cJ}(h:fQ b l)(i:Nat):fQ b (l.drop i):=by
 have:=fQ.append.1 ((yyk i l).symm▸h:fQ b (l.take i++l.drop i));exact this.2.mono this.1.last
def pK.hold{c:dW}{cU f:Nat}{s:fA}(h:pK c cU s f){now:Int}(hr:s.ready now=true):pK c cU (s.hold c.cN) f/\0<(s.hold c.cN).n:=by
 have h1:=h.room;have h2:=h.out;have h3:=h.cap;have h4:=h.wk;unfold fA.hold;by_cases hn:s.n=0
 ·rw[zzd hn];unfold fA.ready at hr;rw[zzb (by omega),zzw]at hr
  have hj:=DJ (n:=cU) (l:=s.L.take c.cN) (λx hx=>h.it x (yys hx)) (h.j7.take _);rw[zzg]at hj
  refine⟨⟨h.AM,h.cap,h.wk,h.cN,λx hx=>h.it x (vvz hx),h.j7.drop _,?_,?_,.inr ⟨?_,hj⟩,h.f0,h.f1⟩,?_⟩
  ·show (s.L.drop c.cN).length+(s.out+min c.cN s.L.length)<=c.cap;rw[zzs];omega
  ·show s.out+min c.cN s.L.length=min c.cN s.L.length;omega
  ·show 0<min c.cN s.L.length;omega
  show 0<min c.cN s.L.length;omega
 rw[zzb hn];exact⟨h,by omega⟩
