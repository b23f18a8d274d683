/- Part of the proof. -/
import Derived.Test.YtmkllimamejcgaaGreatJ9
import Derived.Test.YtmkllimamejcgaaGreatQVcI
import Derived.Lib.Overlaps
import Derived.Lib.AppendZerosOnto
import Derived.Test.YtmkllimamejcgaaGreatQVcG
import Derived.Test.YtmkllimamejcgaaGreatQTab
import Derived.Test.YtmkllimamejcgaaGreatQVcX
import Derived.Test.YtmkllimamejcgaaGreatQVcA
import Derived.Test.YtmkllimamejcgaaGreatQVcC
import Derived.Test.YtmkllimamejcgaaGreatQVcF
import Derived.Test.YtmkllimamejcgaaGreatQVcT
import Derived.Test.YtmkllimamejcgaaGreatQVcN
namespace Go.Proofs.YtmkllimamejcgaaGreat
set_option linter.all false
set_option maxRecDepth 100000
open Go.RowKit
def xx1:=@Tryz.underlying67
def uup:=@List.mem_append_right
def tta:=@List.all_eq_false
def uu7:=@Tryz.underlying336
def wwe:=@run_equalIn_int
def xx9:=@List.length_eq_zero_iff
def vv5:=@List.flatMap_append
def ttb:=@List.nodup_append
def uut:=@List.length_eraseIdx
def uuz:=@Nat.mul_le_mul_left
def vvm:=@Int.natCast_nonneg
def p7(b:Nat)(cs:Γ)(t:Ε):zB:=λh=>h=bw.one b (.cells cs.toArray t (0,0))
section
variable {W w:Α} {l l':Ψ} {P:Program}
def p7.tM{b:Nat}{cs:Γ}{t:Ε}(h:SL W l w)(m:Has (.ob (p7 b cs t)) l):w.heap[b]?=some (.cells cs.toArray t (0,0)):=by
 obtain⟨k,s,x⟩:=h.out;obtain⟨h1,e,le⟩:=m.heap s;have e:h1=bw.one b (.cells cs.toArray t (0,0)):=e;subst e;exact x b _ (le b _ (by simp[bw.one]))
def p7.cell{b o:Nat}{cs:Γ}{t:Ε}{v:Ω}(h:SL W l w)(m:Has (.ob (p7 b cs t)) l)(hv:cs[o]?=some v):w.cell? ⟨b,o,none⟩=some v:=by
 simp[World.cell?,p7.tM h m,hv]
def fR9{z cells:Γ}{ps:List (Nat × Nat × Ω)}{e:Ε}{n:Nat}{K:Ω->Α->Prop}(hS:SL W l w)(hc:mq z ps=some cells)
  (h:∀b w',SL W (.ob (p7 b cells e)::l) w'->K (.slice (some ⟨b,0,none⟩) n n) w'):zm z ps e n w K:=⟨cells,hc,h _ _ (hS.alloc (c:=.ob (p7 w.heap.size cells e)) rfl)⟩
def YW{dT sT ty elem tt:Ε}{b o J8 T4 m MJ ai8 sz:Nat}{a:Addr}{cs cd:Γ}{K:Ω->Α->Prop}(hS:SL W l w)(hu:P.underlying dT=some (.slice elem))(hs:(P.info? elem).map (·.size)=some sz)
  (hm:Nat.min MJ J8=m) (hl:cs.length=m*sz) (mr:∀j v,cs[j]?=some v->w.cell? (a.add j)=some v) (u:lk (.pt b cd tt) (.pt b (cd.take o++cs++cd.drop (o+cs.length)) tt) l l') (ho:o+cs.length<=cd.length) (h1:∀v∈cs,v.oneCell'=true)
  (h:∀v w',SL W l' w'->K v w'):zR P (Builtin.copy_ #[dT,sT] ty #[.slice (some ⟨b,o,none⟩) J8 T4,.slice (some a) MJ ai8]) w K:=by
 have vn:=uuc (P:=P) w a cs mr;have mh:∀j,j<cs.length->∃v,cd[o+j]?=some v:=λj hj=>⟨_,zzd (by omega)⟩;have k_:=run_storeCells_cells (P:=P) b o cs 0 w (λj hj=>by obtain⟨v,hv⟩:=mh j hj;rw[xxg,hS.cell u.has hv];rfl) (λj hj=>by obtain⟨v,hv⟩:=mh j hj;rw[xxg];exact hS.frozen u.has hv) h1;simp only[xxg]at k_;have hr:(Builtin.copy_ #[dT,sT] ty #[.slice (some ⟨b,o,none⟩) J8 T4,.slice (some a) MJ ai8]).run P w= .ok (goInt m) (w.setCells b o cs):=by
  cases hq:P.info? elem with
  | none=>simp[hq]at hs
  | some i=>
   have hi:i.size=sz:=by simpa [hq] using hs
   simp[Builtin.copy_,yym hu,Builtin.lenOf,Builtin.firstCells,sizeOf,typeInfo,hq,hi,hm,<- hl,vn,k_]
 exact⟨_,_,hr,h _ _ (SL.aFf hS u ho)⟩
def fWa{ty t e:Ε}{a:Option Addr}{n c:Nat}{K:Ω->Prop}(ht:P.underlying t=some (.slice e))(h:K (.int .i64 c)):jY P (Builtin.cap_ #[t] ty #[.slice a n c]) w K:=
 ⟨_,by simp[Builtin.cap_,yym ht,goInt],h⟩
end
def Tryz.eFq:(Tryz.prog.info? 66).map (λi=>(i.zero.map (λz=>z.cells.toList),i.size,i.bytes))=some (some [.int .i64 0,.string ⟨#[]⟩],2,24):=by kernel_rfl
def Tryz.icv:(Tryz.prog.info? 66).map (λi=>i.zero)=some (some (.agg #[.int .i64 0,.string ⟨#[]⟩])):=by kernel_rfl
def f_r(w:Α):(sizeOf 66).run Tryz.prog w= .ok 2 w:=by kernel_rfl
def fFi{W w:Α}{l:Ψ}{vb b o m vc lb cb:Nat}{cv cs:Γ}{K:Ω->Α->Prop}(hS:SL W l w)(h1:Has (.ob (p7 vb cv 66)) l)(h2:Has (.pt b cs 66) l)(iX:vb≠b)(nP:cs.length≠0)
  (h:K (.bool false) w):qW Tryz.prog 366 [.slice (some ⟨vb,0,none⟩) m vc,.slice (some ⟨b,o,none⟩) lb cb] w K:=by
 have e1:=p7.tM hS h1;obtain⟨f,hf,e2⟩:=hS.tM h2;have hsa:w.shape? vb=some (66,cv.length):=by simp[World.shape?,e1]
 have hsb:w.shape? b=some (66,cs.length):=by simp[World.shape?,e2]
 have hz:∀x:Addr,x.block=vb->w.frozen? x=false:=λx hx=>by simp only[World.frozen?,hx,e1];simp
 have hr:=Go.Lib.run_overlaps_apart (P:=Tryz.prog) w 67 4 66 xx1 2 f_r ⟨vb,0,none⟩ ⟨b,o,none⟩ m vc lb cb iX 66 66 cv.length cs.length hsa hsb nP (hz _ rfl) (hz _ rfl);refine⟨.bool false,w,?_,h⟩;have:=run_callFunc_extern Tryz.func366 (by kernel_rfl) (by kernel_rfl) (by kernel_rfl) (e:=Extern.SlicesOverlaps.overlaps #[67,67] #[4]) (by kernel_rfl) #[.slice (some ⟨vb,0,none⟩) m vc,.slice (some ⟨b,o,none⟩) lb cb] w;rw[this,hr];rfl
def p7.ne{W w:Α}{l:Ψ}{b vb:Nat}{cs cv:Γ}{t t':Ε}(h:SL W (.pt b cs t::.ob (p7 vb cv t')::l) w):vb≠b:=by
 rintro rfl;obtain⟨k,⟨h1,h2,s,⟨f,_,rfl⟩,h3,h4,s',e,r⟩,m⟩:=h.out;have e:h3=bw.one vb (.cells cv.toArray t' (0,0)):=e;subst e;rcases s vb with ⟨a,_⟩|⟨a,_⟩
 ·simp[bw.one]at a
 rcases s' vb with ⟨c,_⟩|⟨_,c⟩
 ·simp[bw.one]at c
 rw[a]at c;simp[bw.one]at c
def MD(A E x:Γ):(A++E).take A.length++x++(A++E).drop (A.length+x.length)=A++x++E.drop x.length:=by
 rw[wwo,<- ww0,wwn]
def fIe(A E D:Γ)(k:Nat)(hk:k<=E.length):(A++E).take (A.length+k)++D++(A++E).drop (A.length+k+D.length)=A++(E.take k++D++E.drop (k+D.length)):=by
 rw[wwa,ww9,<- ww0 (l:=A++E),wwn];simp
def qt(v:Ω)(n i vb:Nat)(cells x:Γ)(hi:i<=n)(hx:x.length=2)(lP:∀v∈cells,v.oneCell'=true)(sX:∀v∈x,v.oneCell'=true)(hn:n<=1000000):
  SP 321 [v,.int .i64 (i:Int),.slice (some ⟨vb,0,none⟩) 1 1] [.ob (bR v 66 2 n cells),.ob (p7 vb x 66)] (λu post=>post=[.ob (bR u 66 2 (n+1) (cells.take (i*2)++x++cells.drop (i*2)))]):=by
 refine Enzz λW F w hS=>?_;apply h_m;delta RE aI gi ai gI;have mr:∀{l:Ψ} {w:Α},SL W l w->Has (.ob (p7 vb x 66)) l->∀j u,x[j]?=some u->w.cell? ((⟨vb,0,none⟩:Addr).add j)=some u:=λh m j u e=>by
  rw[yyb,yyd];exact p7.cell h m e
 have lU:i=n->zx 2 24 [.int .i64 0,.string ⟨#[]⟩] 66 v (.slice (some ⟨vb,0,none⟩) 1 1) w λu w=>∃post,(post=[.ob (bR u 66 2 (n+1) (cells.take (i*2)++x++cells.drop (i*2)))])/\SL W (app post F) w:=λe=>by
  subst e;obtain⟨_,_,_,hlen,_⟩:=bR.at hS Xh;refine zI (n:=i) (m:=1) hS Xr ⟨rfl,hx,mr hS Xh⟩ (by omega) rfl sX (by omega) (by omega) ?_;clear hS;intro u w hS;rw[zz2 (by omega),yy3 (by omega),zzw];exact⟨_,rfl,aW hS⟩
 rcases bR.open hS with ⟨⟨a,rfl⟩,rfl,rfl,_⟩|⟨b,cap,rest,rfl,tW,hlen,nY,U9⟩
 ·refine⟨a,0,0,i,0,0,rfl,rfl,rfl,⟨_,rfl⟩,hi,zzi _,zzi _,?_⟩;refine yc ?_;refine Gp ?_;refine za (λh=>by omega) (λ_=>?_);refine yc ?_;refine Gp ?_;exact za (λh=>lU (by omega)) (λh=>by omega)
 refine⟨_,n,cap,i,n,cap,rfl,rfl,rfl,⟨_,rfl⟩,hi,tW,zzi _,?_⟩;refine yc ?_;refine Gp ?_;refine za (λh=>by omega) (λ_=>?_);refine yc ?_;refine Gp ?_;refine za (λh=>lU (by omega)) (λiX=>?_);clear lU hS;have hS:=U9;clear U9;have rm:i<n:=by omega
 have hvb:=p7.ne hS;refine Gp ?_;refine fWa xx1 ?_;refine Gp ?_;obtain⟨A,hA⟩:∃A,A=cells.take (i*2):=⟨_,rfl⟩;obtain⟨D,hD⟩:∃D,D=cells.drop (i*2):=⟨_,rfl⟩;have HG:cells=A++D:=by rw[hA,hD,yyl]
 have wa:A.length=i*2:=by rw[hA,zzf];omega
 have HA:D.length=(n-i)*2:=by rw[hD,zzq];omega
 have U3:∀v∈D,v.oneCell'=true:=λv hv=>lP v (by rw[HG];exact uup _ hv);rw[<- hA,<- hD];have kV:(Tryz.prog.info? 66).map (·.size)=some 2:=by kernel_rfl
 refine za (λhg=>?_) (λhg=>?_)
 ·
  have Vm:cap=n:=by omega
  subst Vm;refine⟨_,cap,cap,0,i,cap,rfl,rfl,⟨_,rfl⟩,rfl,by omega,by omega,by omega,?_⟩;rw[zzb (show ¬cap=0 by omega)];simp only[yyf,yyb,uuh,xxg,wwu];refine Gp ?_;rw[show (((cap+1:Nat):Int)-(i:Int))=((cap+1-i:Nat):Int) by omega];cases hq:Tryz.prog.info? 66 with
  | none=>rw[hq]at kV;cases kV
  | some ti=>
   have hI:=Tryz.eFq;rw[hq]at hI
   have hZ:=Tryz.icv;rw[hq]at hZ
   simp only[yyf,uu9,www]at hI hZ;obtain⟨_,h2,h3⟩:=hI;have hold:(Builtin.firstCells ti.size i (.slice (some ⟨b,0,none⟩) i cap)).run Tryz.prog w.drew= .ok A.toArray w.drew:=by
    have hl:=uuc (P:=Tryz.prog) w.drew ⟨b,0,none⟩ A λj u hj=>by
     rw[yyb,yyd];refine hS.drew.cell .hd ?_;rw[HG,zzk,zzr (zzh.1 hj).1];exact hj
    rw[wa]at hl
    rw[h2];simp[Builtin.firstCells,hl]
   have ud:Builtin.nextslicecap (i+(cap+1-i)) cap*ti.bytes<=281474976710656:=growslice_fits (by omega) (by rw[h3];omega);have Cx:=Go.Lib.run_append_grow_zeros (P:=Tryz.prog) w 67 3 67 66 ti _ .i64 .i64 xx1 yye hq hZ (some ⟨b,0,none⟩) i cap A hold (cap+1-i) (by omega) (by omega) (by omega) (by omega) (by rw[h3];omega) ud;refine⟨_,_,Cx,?_⟩;generalize Vn:grownCap w (i+(cap+1-i)) cap 66=cp;have Ch:cap+1<=cp:=by
    have:=grownCap_ge w (i+(cap+1-i)) cap 66;omega
   have hz:∀k,Builtin.zeroCells (Value.cells (.agg #[.int .i64 0,.string ⟨#[]⟩])) k=(fR [.int .i64 0,.string ⟨#[]⟩] k).toArray:=λk=>by
    rw[<- Nj (Value.cells (.agg #[.int .i64 0,.string ⟨#[]⟩])) [.int .i64 0,.string ⟨#[]⟩] rfl k,Array.toArray_toList]
   rw[hz,hz];obtain⟨E,hE⟩:∃E:Γ,E=fR [.int .i64 0,.string ⟨#[]⟩] (cap+1-i)++fR [.int .i64 0,.string ⟨#[]⟩] (cp-(i+(cap+1-i))):=⟨_,rfl⟩;have hEl:E.length=(cp-i)*2:=by rw[hE,zza,p5,p5];simp;omega
   have e2:A.toArray++(fR [.int .i64 0,.string ⟨#[]⟩] (cap+1-i)).toArray++(fR [.int .i64 0,.string ⟨#[]⟩] (cp-(i+(cap+1-i)))).toArray=(A++E).toArray:=by rw[hE];simp
   rw[e2];have hS:=SL.new (cs:=A++E) (t:=66) hS.drew;clear Cx hold hz e2 hE;have Ib:w.heap.size=w.drew.heap.size:=rfl;rw[Ib];generalize w.drew.heap.size=nb at *
   generalize (w.drew.alloc (.cells (A++E).toArray 66))=w at *
   have ei:i+(cap+1-i)=cap+1:=by omega
   rw[ei];refine⟨_,cap+1,cp,i,cap+1,cp,rfl,rfl,rfl,⟨_,rfl⟩,by omega,Ch,zzi _,?_⟩;rw[zzb (show ¬cp=i by omega)];simp only[yyf,yyb,yyd];have e3:=MD A E x;rw[wa]at e3
   refine YW (tt:=66) (l':=.pt nb (A++x++E.drop x.length) 66::.pt b (cells++rest) 66::.ob (p7 vb x 66)::F) hS xx1 kV (m:=1) (sz:=2) (xxn (by omega)) (by omega) (mr hS Xh) (by rw[e3];exact lk.hd) (by rw[zza];omega) sX ?_;clear hS e3;intro _ w hS;refine Gn λw hS=>?_;refine⟨_,cap+1,cp,i+1,cap+1,cp,rfl,rfl,rfl,⟨_,rfl⟩,by omega,Ch,zzi _,?_⟩;rw[zzb (show ¬cp=i+1 by omega)];refine⟨_,cap,cap,i,cap,cap,rfl,rfl,rfl,⟨_,rfl⟩,by omega,zzi _,zzi _,?_⟩;rw[zzb (show ¬cap=i by omega)];simp only[yyf,yyb,yyd];have e4:=MD (A++x) (E.drop x.length) D;have e5:(A++x).length=(i+1)*2:=by rw[zza];omega
   rw[e5]at e4
   have U4:(E.drop x.length).length=E.length-2:=by rw[zzq,hx]
   refine YW (tt:=66) (l':=.pt nb (A++x++D++(E.drop x.length).drop D.length) 66::.pt b (cells++rest) 66::.ob (p7 vb x 66)::F) hS xx1 kV (m:=cap-i) (sz:=2) (xxn (by omega)) HA (λj u hj=>?_) (by rw[e4];exact lk.hd) (by rw[zza,e5,U4];omega) U3 ?_
   ·rw[yyb];refine hS.cell (.tl .hd) ?_;rw[HG,zzk,yya (by omega),wa,xx6,zzr (zzh.1 hj).1];exact hj
   clear hS e4;intro _ w hS;refine⟨_,rfl,SL.cR (bR.mk (sz:=2) (n:=cap+1) (cap:=cp) (cells:=A++x++D) (rest:=(E.drop x.length).drop D.length) Ch ?_ ?_ hS) Xi⟩
   ·rw[zza,e5];omega
   rw[zzq,U4];omega

 have DR:n+1<=cap:=by omega
 clear hg;have A':2<=rest.length:=by rw[nY];omega
 refine Gp ?_;refine⟨_,n,cap,0,n+1,cap,rfl,rfl,⟨_,rfl⟩,rfl,by omega,by omega,by omega,?_⟩;rw[zzb (show ¬cap=0 by omega)];simp only[yyf,yyb,uuh,xxg,wwu];refine Gp ?_;refine⟨_,n+1,cap,i+1,n+1,cap,rfl,rfl,rfl,⟨_,rfl⟩,by omega,by omega,by omega,?_⟩;rw[zzb (show ¬cap=i+1 by omega)];simp only[yyf,yyb,yyd];refine fFi hS Xh Xh hvb (by rw[zza];omega) ?_;refine⟨_,rfl,?_⟩;refine zq ?_;refine Gn λw hS=>?_;refine⟨_,n+1,cap,i+1,n+1,cap,rfl,rfl,rfl,⟨_,rfl⟩,by omega,by omega,by omega,?_⟩;rw[zzb (show ¬cap=i+1 by omega)];refine⟨_,n+1,cap,i,n+1,cap,rfl,rfl,rfl,⟨_,rfl⟩,by omega,by omega,by omega,?_⟩;rw[zzb (show ¬cap=i by omega)];simp only[yyf,yyb,yyd];obtain⟨E,hE⟩:∃E,E=D++rest:=⟨_,rfl⟩;have hEl:E.length=(cap-i)*2:=by rw[hE,zza];omega
 have hAE:cells++rest=A++E:=by rw[HG,hE,zzk]
 rw[hAE]at hS
 have e3:=fIe A E D 2 (by omega);rw[wa,show i*2+2=(i+1)*2 by omega]at e3
 refine YW (tt:=66) (l':=.pt b (A++(E.take 2++D++E.drop (2+D.length))) 66::.ob (p7 vb x 66)::F) hS xx1 kV (m:=n-i) (sz:=2) (by simp only[Nat.min_def];split<;>omega) HA (λj u hj=>?_) (by rw[e3];exact lk.hd) (by rw[zza];omega) U3 ?_
 ·rw[yyb];refine hS.cell .hd ?_;rw[yya (by omega),wa,xx6,hE,zzr (zzh.1 hj).1];exact hj
 clear hS e3;intro _ w hS;refine⟨_,n+1,cap,i,n+1,cap,rfl,rfl,rfl,⟨_,rfl⟩,by omega,by omega,by omega,?_⟩;rw[zzb (show ¬cap=i by omega)];simp only[yyf,yyb,yyd];have e4:=MD A (E.take 2++D++E.drop (2+D.length)) x;rw[wa,hx]at e4
 have Ii:(E.take 2).length=2:=by rw[zzf];omega
 have e5:(E.take 2++D++E.drop (2+D.length)).drop 2=D++E.drop (2+D.length):=by
  rw[zzk];have:=wwn (l₁:=E.take 2) (l₂:=D++E.drop (2+D.length))
  rwa [Ii]at this
 rw[e5]at e4
 refine YW (tt:=66) (l':=.pt b (A++x++(D++E.drop (2+D.length))) 66::.ob (p7 vb x 66)::F) hS xx1 kV (m:=1) (sz:=2) (xxn (by omega)) (by omega) (mr hS Xh) (by rw[hx,e4];exact lk.hd) (by rw[zza,zza,zza,Ii,zzq];omega) sX ?_;clear hS e4 e5;intro _ w hS;rw[<- zzk (A++x)]at hS
 refine⟨_,rfl,SL.cR (bR.mk (sz:=2) (n:=n+1) (cap:=cap) (cells:=A++x++D) (rest:=E.drop (2+D.length)) DR ?_ ?_ hS) Xi⟩
 ·rw[zza,zza];omega
 rw[zzq];omega
abbrev fw(b:Nat):Ω:=.pointer (some ⟨b,0,none⟩)
def fW6{W w:Α}{l:Ψ}{α:Type}{enc:α->Γ}{v u:Ω}{t:Ε}{sz j i:Nat}{k:IntKind}{xs:List α}{y:α}{K:Α->Prop}(hS:SL W (.ob (bR v t sz xs.length (xs.map enc).flatten)::l) w)(hn:∀x,(enc x).length=sz)
  (hj:j<xs.length) (hi:i<sz) (hy:(enc xs[j]).set i u=enc y) (h1:u.oneCell'=true) (hK:∀w',SL W (.ob (bR v t sz (xs.set j y).length ((xs.set j y).map enc).flatten)::l) w'->K w'):zl sz v (.int k (j:Int)) λp=>zn i p λq=>jN q u w K:=by
 rcases bR.open hS with ⟨_,h0,_⟩|⟨b,cap,rest,rfl,hc,hlen,nY,hS⟩
 ·omega
 have iw:j*sz+i<xs.length*sz:=by
  have:(j+1)*sz<=xs.length*sz:=yyt _ hj;rw[yyy]at this;omega
 refine zF hj (yI ?_);rw[yyd];refine Zz hS .hd (zzd (by rw[zza];omega)) h1 λw' hS=>hK w' ?_;rw[wwm _ _ (by omega),Kp hn xs j i hj y u hi hy]at hS
 have hl:(xs.set j y).length=xs.length:=yyh;rw[hl];refine bR.mk hc ?_ nY hS;rw[tR hn,hl]
def f_b{W w:Α}{l:Ψ}{v:Ω}{t:Ε}{sz n k:Nat}{kk:IntKind}{cells:Γ}{K:Ω->Prop}(h:SL W l w)(mm:Has (.ob (bR v t sz n cells)) l)(hk:k<=n)
  (hK:∀A c,n-k<=c->(∀m c' w' l',m<=n-k->SL W l' w'->Has (.ob (bR v t sz n cells)) l'->oZ w' sz (.slice A m c') m ((cells.drop (k*sz)).take (m*sz)))->K (.slice A (n-k) c)):kh sz v (some (.int kk (k:Int))) none none K:=by
 obtain⟨a,cap,rfl,hl,_⟩:=bR.at h mm;have tW:n<=cap:=by
  obtain⟨l2,r⟩:=mm.rem;rcases bR.open (h.perm r.perm) with ⟨⟨a',e⟩,rfl,rfl,_⟩|⟨b,G8,rest,e,hc,_⟩
  ·cases e;omega
  cases e;exact hc
 refine⟨a,n,cap,k,n,cap,rfl,rfl,rfl,⟨kk,rfl⟩,hk,tW,zzi _,hK _ _ (by omega) λm c' w' l' hm h' m'=>?_⟩;obtain⟨a',G8,e,_,hx⟩:=bR.at h' m';cases e;have tZ:((cells.drop (k*sz)).take (m*sz)).length=m*sz:=by
  have:(k+m)*sz<=n*sz:=yyt _ (by omega);rw[yyy]at this
  rw[zzf,zzq,hl];omega
 rcases yy8 m with rfl|VO
 ·have:(cells.drop (k*sz)).take (0*sz)=[]:=by simp
  rw[this];generalize (if cap=k then a else a.map (·.add (k*sz)))=A;cases A with
  | none=>exact⟨rfl,rfl⟩
  | some p=>exact⟨rfl,by simp,λj v e=>by simp at e⟩
 obtain⟨b,rfl,h3⟩:=hx 0 (by omega);rw[zzb (show ¬cap=k by omega)];refine⟨rfl,tZ,λj v e=>?_⟩;show w'.cell? (((⟨b,0,none⟩:Addr).add (k*sz)).add j)=some v;rw[yyb,yyb];refine h3 _ v ?_;rw[uua]at e
 split at e
 ·rw[wwi]at e
  rw[yyd];exact e
 cases e
abbrev kD(v:Ω)(l:List Row):Η:=.ob (bR v 66 2 l.length (l.map jA).flatten)
def UG{z v:Ω}(h:v.oneCell'=true):mq (fR [z] 1) [(0,1,v)]=some [v]:=by simp[mq,fR,D9 h]
def AN(r:Row):∀v∈jA r,v.oneCell'=true:=by simp[jA,Value.oneCell']
def Hh(k:Int)(v:Β):jA ⟨k,v⟩=[.int .i64 k,.string v]:=rfl
def jG(x:Nat × List Row):zB:=nT λv:Ω=>zG True [.pt x.1 [v] 305,kD v x.2]
def jG.iff{W w:Α}{b:Nat}{C:List Row}{l:Ψ}:SL W (.ob (jG (b,C))::l) w↔∃v,SL W (.pt b [v] 305::kD v C::l) w:=by
 unfold jG;simp only[SL.ex,SL.fact,zzu,zzp,uus]
def jG.put{W w:Α}{b:Nat}{C:List Row}{v:Ω}{l F:Ψ}(hS:SL W l w)(p:lJ [.pt b [v] 305,kD v C] l F):SL W (.ob (jG (b,C))::F) w:=jG.iff.2 ⟨v,hS.pick p⟩
def qw(a:Int):SP 304 [.int .i64 a] [] (e_ (.bool false) []):=by
 refine Enzz λW F w hS=>?_;apply aF7;unfold JE;refine Gp ?_;rw[show decide (a≠a)=false by simp];(exact dW hS)
def uB(a b:Int):Int:=if a<b then -1 else if b<a then 1 else 0
def TP{a b:Int}:uB a b<0↔a<b:=by unfold uB;split<;>(try split)<;>omega
def bFn{a b:Int}:uB a b=0↔a=b:=by unfold uB;split<;>(try split)<;>omega
def bFp(a b:Int):SP 246 [.int .i64 a,.int .i64 b] [] (e_ (.int .i64 (uB a b)) []):=by
 refine Enzz λW F w hS=>?_;apply aF5;delta JB aI ai;refine Cg (qw a) λw hS=>?_;refine Cg (qw b) λw hS=>?_;refine za (λh=>?_) (λh=>?_)
 ·rw[show uB a b = -1 by unfold uB;rw[zzc h]];(exact dW hS)
 refine cF (λh2=>?_) (λh2=>?_)
 ·rw[show uB a b=1 by unfold uB;rw[zzb h,zzc h2]];(exact dW hS)
 rw[show uB a b=0 by unfold uB;rw[zzb h,zzb h2]];(exact dW hS)
def Yq(r:Row)(key:Int):SP 332 [agg (jA r),.int .i64 key] [] (e_ (.int .i64 (uB r.key key)) []):=by
 obtain⟨rk,rv⟩:=r;refine Enzz λW F w hS=>?_;apply h_y;delta RR a_;refine zw hS λxb w hS=>?_;rw[Hh]at hS
 refine Gp ?_;refine Cg (bFp rk key) λw hS=>?_;(exact dW hS)
def fWq{i j:Nat}{K:Ω->Prop}(h:i+j<=1000000000)(k:K (.int .i64 (((i+j) / 2:Nat):Int))):zc .add (.int .i64 i) (.int .i64 j) λa=>zJ .u64 a λb=>zc .shr b (.int .u64 1) λc=>zJ .i64 c K:=by
 refine Zy (by omega) (zW ?_);rw[wwx,show ((i+j:Nat):Int) % 18446744073709551616=((i+j:Nat):Int) by omega];have e:((i+j:Nat):Int).fdiv (2 ^ (min (1:Int).toNat IntKind.u64.bits))=(((i+j) / 2:Nat):Int):=by
  rw[show (min (1:Int).toNat IntKind.u64.bits)=1 by decide,vvt _ (by decide)];omega
 refine⟨_,by simp only[nH];rw[zzb (by decide)],?_⟩;rw[e];exact yv (by omega) k
def bwm(v:Ω)(C:List Row)(key:Int)(hs:lj C)(hn:C.length<=1000000):
  SP 331 [v,.int .i64 key,.func (.func 332) #[] #[]] [kD v C] (λu post=>∃i,AtR C key i/\u= .tuple #[.int .i64 (i:Nat),.bool (pT C key i)]/\post=[kD v C]):=by
 refine Enzz λW F w hS=>?_;apply h_x;delta RQ aI ai;refine zt hS Xh ?_;refine⟨λus w=>∃i j:Nat,us=[.int .i64 i,.int .i64 j]/\i<=j/\j<=C.length/\(∀k (h:k<C.length),k<i->C[k].key<key)/\(∀h:j<C.length,key<=C[j].key)/\SL W (kD v C::F) w,
  λus _=>match us with|[.int _ i,.int _ j]=>(j-i).toNat|_=>0,⟨0,C.length,rfl,by omega,by omega,λk h hk=>by omega,λh=>by omega,hS⟩,?_⟩
 clear hS;rintro v9 v10 w ⟨i,j,gW,wq,hj,VL,HV,hS⟩;cases gW;refine Gx ?_;refine za (λh=>?_) (λh=>?_)
 ·refine fWq (by omega) ?_;generalize hm:(i+j) / 2=m;have sU:i<=m/\m<j:=by omega
  clear hm;have rQ:m<C.length:=by omega
  refine zU hS Xh nj (x:=C[m]) (by simp[rQ]) rQ ?_;refine⟨332,#[],#[],rfl,by decide,?_⟩;refine Cg (Yq C[m] key) λw hS=>?_;refine za (λh1=>?_) (λh1=>?_)
  ·have h1:=TP.1 h1;refine Gp ?_;refine⟨⟨m+1,j,rfl,by omega,hj,λk hk hkm=>?_,HV,hS⟩,by dsimp only;omega⟩;rcases xxv k m with h2|h2
   ·have:=xxk.1 hs k m hk rQ h2;omega
   obtain rfl:k=m:=by omega
   exact h1
  have h1:¬C[m].key<key:=λh2=>h1 (TP.2 h2);exact⟨⟨i,m,rfl,sU.1,by omega,VL,λ_=>by omega,hS⟩,by dsimp only;omega⟩
 obtain rfl:i=j:=by omega
 have hA:AtR C key i:=⟨hj,VL,HV⟩;refine cF (λh1=>?_) (λh1=>?_)
 ·have d_:i<C.length:=by omega
  refine zU hS Xh nj (x:=C[i]) (by simp[d_]) d_ ?_;refine⟨332,#[],#[],rfl,by decide,?_⟩;refine Cg (Yq C[i] key) λw hS=>?_;have e:decide (uB C[i].key key=0)=pT C key i:=by
   unfold pT;rw[yyg,bFn];exact⟨λh=>⟨d_,h⟩,λ⟨_,h⟩=>h⟩
  rw[e];exact⟨_,⟨i,hA,rfl,rfl⟩,hS⟩
 have e:pT C key i=false:=zzz λ⟨h,_⟩=>h1 (by omega);rw[<- e];exact⟨_,⟨i,hA,rfl,rfl⟩,hS⟩
def qj(v:Ω)(n i:Nat)(cells:Γ)(hi:i<n)(lP:∀v∈cells,v.oneCell'=true)(hb:n*24<=140737488355328)(hn:n<=140737488355328):
  SP 335 [v,.int .i64 (i:Int),.int .i64 ((i+1:Nat):Int)] [.ob (bR v 66 2 n cells)] (λu post=>post=[.ob (bR u 66 2 (n-1) (cells.take (i*2)++cells.drop ((i+1)*2)))]):=
 Ka (z:=[.int .i64 0,.string ⟨#[]⟩]) (zv:=.agg #[.int .i64 0,.string ⟨#[]⟩]) (λv0 v1 v2 w R h=>h_1 v0 v1 v2 w R h) xx1 (λw=>by kernel_rfl) rfl rfl (by simp[Value.oneCell']) v n i cells hi lP hb hn
def TM(v:Ω)(C:List Row)(hn:C.length<=1000000):SP 103 [v] [kD v C] (λu post=>post=[kD u C,kD v C]):=
 bFk (λv0 w R h=>M_ v0 w R h) rfl (by decide) (xC AN C) (tR nj C) (by omega) (by omega)
section
variable (b:Nat) (C:List Row) (key:Int) (hs:lj C) (hn:C.length<=1000000)
include hs hn
def yL(v:Ω):SP 282 [fw b,.int .i64 key] [.pt b [v] 305,kD v C] (λu post=>∃i,AtR C key i/\u= .tuple #[.int .i64 (i:Nat),.bool (pT C key i)]/\post=[.pt b [v] 305,kD v C]):=by
 refine Enzz λW F w hS=>?_;apply g_s;delta Q_ bW;refine Gp ?_;refine Cc (bwm v C key hs hn) ?_;clear hS;rintro u post ⟨i,hA,rfl,rfl⟩ w hS;(try simp only[app]at hS);refine Gp ?_
 exact⟨_,⟨i,hA,rfl,rfl⟩,aW hS⟩
def Yy(val:Β):SP 268 [fw b,.int .i64 key,.string val] [.ob (jG (b,C))] (λu post=>(∃q,u= .bool q)/\post=[.ob (jG (b,lW C ⟨key,val⟩))]):=by
 refine Enzz λW F w hS=>?_;apply g_d;delta PX bW ia cW ai gI;obtain⟨v,hS⟩:=jG.iff.1 hS;refine Cc (yL b C key hs hn v) ?_;clear hS;rintro u post ⟨i,hA,rfl,rfl⟩ w hS;(try simp only[app]at hS);refine Gp ?_
 have hi:=hA.ins val;have hle:=hA.le;cases hk:pT C key i with
 | true=>
  rw[hk,zzc rfl]at hi
  obtain⟨d_,_⟩:=zzl hk;refine zq ?_;refine Gp ?_;refine fW6 (enc:=jA) (y:=⟨key,val⟩) (Has.front hS (l2:=.pt b [v] 305::F) Xr) nj d_ (by decide) ?_ rfl λw hS=>?_
  ·obtain⟨_,e⟩:=zzl hk;rw[<- e];rfl
  rw[hi];exact⟨_,⟨⟨_,rfl⟩,rfl⟩,jG.iff.2 ⟨v,aW hS⟩⟩
 | false=>
  rw[hk,zzb (by decide)]at hi
  refine zp ?_;(repeat refine Gp ?_)
  refine fR9 hS (UF (cs:=jA ⟨key,val⟩) rfl rfl) λvb w hS=>?_;refine Cc (qt v C.length i vb (C.map jA).flatten (jA ⟨key,val⟩) hle rfl (xC AN _) (AN _) hn) ?_;clear hS;rintro u post rfl w hS;try simp only[app]at hS
  have h1:=bR.one hS;refine Gn λw hS=>?_;have e:((C.map jA).flatten.take (i*2)++jA ⟨key,val⟩++(C.map jA).flatten.drop (i*2))=((lW C ⟨key,val⟩).map jA).flatten:=by
   rw[hi,xV nj,AS nj];simp
  have hl:C.length+1=(lW C ⟨key,val⟩).length:=by rw[hi];simp;omega
  rw[e,hl]at hS
  exact⟨_,⟨⟨_,rfl⟩,rfl⟩,jG.iff.2 ⟨u,aW hS⟩⟩
def eFb:SP 290 [fw b,.int .i64 key] [.ob (jG (b,C))] (λu post=>(∃q,u= .bool q)/\post=[.ob (jG (b,ow C key))]):=by
 refine Enzz λW F w hS=>?_;apply g_0;delta Ri bW ia ai;obtain⟨v,hS⟩:=jG.iff.1 hS;refine Cc (yL b C key hs hn v) ?_;clear hS;rintro u post ⟨i,hA,rfl,rfl⟩ w hS;(try simp only[app]at hS);refine Gp ?_
 have hi:=hA.del hs;have hle:=hA.le;cases hk:pT C key i with
 | true=>
  rw[hk,zzc rfl]at hi
  obtain⟨d_,_⟩:=zzl hk;refine zq ?_;refine Gp ?_;refine Cc (qj v C.length i (C.map jA).flatten d_ (xC AN _) (by omega) (by omega)) ?_;clear hS;rintro u post rfl w hS;try simp only[app]at hS
  have h1:=bR.one hS;refine Gn λw hS=>?_;have e:((C.map jA).flatten.take (i*2)++(C.map jA).flatten.drop ((i+1)*2))=((ow C key).map jA).flatten:=by
   rw[hi,xV nj,AS nj];simp
  have hl:C.length-1=(ow C key).length:=by rw[hi,zza,zzf,zzq];omega
  rw[e,hl]at hS
  exact⟨_,⟨⟨_,rfl⟩,rfl⟩,jG.iff.2 ⟨u,aW hS⟩⟩
 | false=>
  rw[hk,zzb (by decide)]at hi
  refine zp ?_;rw[hi];exact⟨_,⟨⟨_,rfl⟩,rfl⟩,jG.iff.2 ⟨v,aW hS⟩⟩
def UQ(o:Option Β):Ω:=.tuple #[.string (o.getD emp),.bool o.isSome]
def eFg:SP 214 [fw b,.int .i64 key] [.ob (jG (b,C))] (e_ (UQ (jW C key)) [.ob (jG (b,C))]):=by
 refine Enzz λW F w hS=>?_;apply gWa;delta Pg bW a_ gi;obtain⟨v,hS⟩:=jG.iff.1 hS;refine Cc (yL b C key hs hn v) ?_;clear hS;rintro u post ⟨i,hA,rfl,rfl⟩ w hS;(try simp only[app]at hS);refine Gp ?_
 obtain⟨FA,Aa⟩:=hA.get hs;cases hk:pT C key i with
 | true=>
  obtain⟨d_,e⟩:=zzl hk;refine zp ?_;refine Gp ?_;refine yq hS Xh nj (x:=C[i]) (by simp[d_]) d_ (i:=1) rfl ?_;rw[Aa d_ e];exact⟨_,⟨rfl,rfl⟩,jG.iff.2 ⟨v,aW hS⟩⟩
 | false=>
  refine zq ?_;have e:jW C key=none:=by
   rw[hk]at FA
   cases hg:jW C key with
   | none=>rfl
   | some x=>rw[hg]at FA;cases FA
  rw[e];exact⟨_,⟨rfl,rfl⟩,jG.iff.2 ⟨v,aW hS⟩⟩
def qo(n:Int)(h1 : -1000000<=n)(h2:n<=9000000000000000000):SP 298 [fw b,.int .i64 key,.int .i64 n] [.ob (jG (b,C))] (λu post=>post=[kD u (s_ C key n),.ob (jG (b,C))]):=by
 refine Enzz λW F w hS=>?_;apply g_8;delta Rr bW ai;obtain⟨v,hS⟩:=jG.iff.1 hS;refine Cc (yL b C key hs hn v) ?_;clear hS;rintro u post ⟨i,hA,rfl,rfl⟩ w hS;(try simp only[app]at hS);refine Gp ?_
 have ha:=hA.after hs n;have hle:=hA.le;obtain⟨k,hk⟩:∃k,k=if pT C key i=true then i+1 else i:=⟨_,rfl⟩
 rw[<- hk]at ha
 have pQ:k<=C.length:=by
  rw[hk];split
  ·rename_i h;obtain⟨d_,_⟩:=zzl h;omega
  exact hle
 refine⟨λus w=>us=[.int .i64 (k:Nat)]/\SL W (.pt b [v] 305::kD v C::F) w,?_,?_⟩
 ·cases hq:pT C key i with
  | true=>
   refine zq ?_;refine Gp ?_;exact⟨by rw[hk,hq,zzc rfl],aW hS⟩
  | false=>
   refine zp ?_;exact⟨by rw[hk,hq,zzb (by decide)],aW hS⟩
 clear hS;rintro v7 w ⟨gW,hS⟩;cases gW;refine Gp ?_;refine f_b hS Xh pQ λA c hc mr=>?_;refine Gp ?_;obtain⟨m,hm⟩:∃m,m=min n.toNat (C.length-k):=⟨_,rfl⟩;have em:max (min n ((C.length-k:Nat):Int)) 0=((m:Nat):Int):=by omega
 rw[em];refine⟨A,C.length-k,c,0,m,c,rfl,rfl,⟨_,rfl⟩,rfl,zz8 _,by omega,zzi _,?_⟩;have eA:(if c=0 then A else A.map (·.add (0*2)))=A:=by
  split
  ·rfl
  cases A<;>simp[Addr.add]
 rw[eA,wwu,wwu];have ecs:((C.map jA).flatten.drop (k*2)).take (m*2)=((s_ C key n).map jA).flatten:=by
  rw[AS nj,xV nj,ha];congr 2;rcases xxv n.toNat (C.length-k) with h|h
  ·congr 1;omega
  rw[zz2 (by rw[zzq];omega),zz2 (by rw[zzq];omega)]
 have el:m=(s_ C key n).length:=by rw[ha,zzf,zzq];omega
 have LA:∀v0 w R,EP 2 24 [.int .i64 0,.string ⟨#[]⟩] 66 66 v0 w R->aF 103 [v0] w R:=λv0 w R h=>M_ v0 w R h;refine LA _ _ _ (J3 (sz:=2) (l5:=24) (z:=[.int .i64 0,.string ⟨#[]⟩]) (t:=66) (ts:=66) (n:=m) (cs:=((s_ C key n).map jA).flatten) ⟨A,c,rfl⟩ (λw' d h=>?_) (by rw[tR nj,<- el]) rfl (by decide) (xC AN _) (by omega) (by omega) hS λu w hS=>?_)
 ·rw[<- ecs];exact mr m c w' _ (by omega) h (.tl Xh)
 rw[el]at hS
 exact⟨_,rfl,SL.cR (jG.put hS Xp) Xi⟩
end
def d_9(b:Nat)(C:List Row)(hn:C.length<=1000000):SP 135 [fw b] [.ob (jG (b,C))] (λu post=>post=[kD u C,.ob (jG (b,C))]):=by
 refine Enzz λW F w hS=>?_;apply gF5;delta N1 bW;obtain⟨v,hS⟩:=jG.iff.1 hS;refine Gp ?_;refine Cc (TM v C hn) ?_;clear hS;rintro u post rfl w hS;try simp only[app]at hS
 exact⟨_,rfl,SL.cR (jG.put hS Xp) Xi⟩
def eFi(b:Nat)(C:List Row):SP 186 [fw b] [.ob (jG (b,C))] (e_ (.int .i64 (C.length:Nat)) [.ob (jG (b,C))]):=by
 refine Enzz λW F w hS=>?_;apply gRl;delta OT bW;obtain⟨v,hS⟩:=jG.iff.1 hS;refine Gp ?_;refine zt hS Xh ?_;exact⟨_,⟨rfl,rfl⟩,jG.iff.2 ⟨v,aW hS⟩⟩
def Yx(H:bw)(v:Ω)(l:List Row)(hv:iD H 2 v l.length (l.map jA).flatten)(hl:l.length<=100000):SP 194 [v] [.mem H] (λu post=>∃b,u=fw b/\post=[.ob (jG (b,s5 [] l)),.mem H]):=by
 refine Enzz λW F w hS=>?_;apply gRq;delta OY aI a_ ai gI bI;refine Gp ?_;refine zw hS λxb w hS=>?_;have hS:SL W (kD (.slice none 0 0) []::_) _:=bR.nil hS;have hS:SL W (.ob (jG (xb,[]))::.mem H::F) _:=jG.iff.2 ⟨_,aW hS⟩;refine zo hv ?_;refine⟨λus w=>∃i:Nat,us=[.int .i64 i]/\i<=l.length/\SL W (.ob (jG (xb,s5 [] (l.take i)))::.mem H::F) w,λus _=>match us with|[.int _ i]=>(l.length-i).toNat|_=>0,⟨0,rfl,by omega,hS⟩,?_⟩;clear hS;rintro v10 w ⟨i,gW,hi,hS⟩;cases gW;refine cF (λh=>?_) (λh=>?_)
 ·have d_:i<l.length:=by omega
  have hp:=fIc d_ [];have k_:=aif (l.take i) (C:=[]) List.Pairwise.nil;have DH:=aie (l.take i) [];rw[zzf,yyo]at DH
  refine zE hS Xh nj hv (x:=l[i]) (by simp[d_]) d_ ?_;generalize l[i]=r at *
  have hP:(s5 [] (l.take i)).length<=1000000:=by omega
  clear DH;generalize s5 [] (l.take i)=P at *
  obtain⟨rk,rv⟩:=r;rw[Hh];refine Gm λb w hS=>?_;refine Cc (Yy xb P rk k_ hP rv) ?_;clear hS;rintro u post ⟨⟨q,rfl⟩,rfl⟩ w hS;(try simp only[app]at hS);refine Gp ?_
  rw[<- hp]at hS
  exact⟨⟨i+1,rfl,by omega,aW hS⟩,by dsimp only;omega⟩
 obtain rfl:i=l.length:=by omega
 rw[zz1]at hS
 exact⟨_,⟨xb,rfl,rfl⟩,aW hS⟩
def vX(p:Nat × List Row):Γ:=[fw p.1]
def BU(p:Nat × List Row):(vX p).length=1:=rfl
abbrev ou(v:Ω)(L:List (Nat × List Row)):Η:=.ob (bR v 238 1 L.length (L.map vX).flatten)
def i_(sp:Nat)(ts:List (List Row)):zB:=nT λx:Ω × List (Nat × List Row)=>zG (x.2.map Prod.snd=ts) [.pt sp [x.1] 241,ou x.1 x.2,.ob (zg jG x.2)]
def i_.iff{W w:Α}{sp:Nat}{ts:List (List Row)}{l:Ψ}:SL W (.ob (i_ sp ts)::l) w↔∃v L,L.map Prod.snd=ts/\SL W (.pt sp [v] 241::ou v L::.ob (zg jG L)::l) w:=by
 unfold i_;simp only[SL.ex,SL.fact,zzu,zzp];exact⟨λ⟨x,h1,h2⟩=>⟨x.1,x.2,h1,h2⟩,λ⟨v,L,h1,h2⟩=>⟨(v,L),h1,h2⟩⟩
def i_.put{W w:Α}{sp:Nat}{v:Ω}{L:List (Nat × List Row)}{ts:List (List Row)}{l F:Ψ}(hL:L.map Prod.snd=ts)(hS:SL W l w)(p:lJ [.pt sp [v] 241,ou v L,.ob (zg jG L)] l F):SL W (.ob (i_ sp ts)::F) w:=i_.iff.2 ⟨v,L,hL,hS.pick p⟩
def Av{L:List (Nat × List Row)}{ts:List (List Row)}(h:L.map Prod.snd=ts):L.length=ts.length:=by rw[<- h,zzs]
def Ek{L:List (Nat × List Row)}{ts:List (List Row)}(h:L.map Prod.snd=ts){i:Nat}(hi:i<ts.length):∃b,L[i]?=some (b,ts[i]):=by
 subst h;have hl:i<L.length:=by simpa using hi
 exact⟨L[i].1,by rw[zzd hl];simp⟩
def awz{L:List (Nat × List Row)}{ts:List (List Row)}(h:L.map Prod.snd=ts)(i:Nat)(b:Nat)(C:List Row):(L.set i (b,C)).map Prod.snd=ts.set i C:=by
 rw[<- h,vvg]
def one_set{L:List (Nat × List Row)}{i b:Nat}{C D:List Row}(h:L[i]?=some (b,C)):(L.set i (b,D)).map vX=L.map vX:=by
 refine xxp (by simp) λj h1 h2=>?_;simp only[zzs,yyh]at h1;rw[xxw,xxw,xxi];split
 ·rename_i e;subst e;rw[zzd h1]at h
  rw[xx2 h];rfl
 rfl
def ou.set{W w:Α}{v:Ω}{L:List (Nat × List Row)}{i b:Nat}{C D:List Row}{l:Ψ}(h:L[i]?=some (b,C))(hS:SL W (ou v L::l) w):SL W (ou v (L.set i (b,D))::l) w:=by
 have e:=one_set (D:=D) h;have e2:(L.set i (b,D)).length=L.length:=yyh;unfold ou;rw[e,e2];exact hS
section
variable (sp:Nat) (ts:List (List Row))
def yr:SP 110 [fw sp] [.ob (i_ sp ts)] (e_ (.int .i64 (ts.length:Nat)) [.ob (i_ sp ts)]):=by
 refine Enzz λW F w hS=>?_;apply gFp;delta NL bW;obtain⟨v,L,hL,hS⟩:=i_.iff.1 hS;rw[<- Av hL];refine Gp ?_;refine zt hS Xh ?_;exact⟨_,⟨rfl,rfl⟩,SL.cR (i_.put hL hS Xp) Xi⟩
def yK(t:Int):SP 134 [fw sp,.int .i64 t] [.ob (i_ sp ts)] (e_ (.bool (decide (0<=t/\t<ts.length))) [.ob (i_ sp ts)]):=by
 refine Enzz λW F w hS=>?_;apply gF4;delta N0 aI bW cW ai;obtain⟨v,L,hL,hS⟩:=i_.iff.1 hS;have hl:=Av hL;refine cF (λh=>?_) (λh=>?_)
 ·refine Gp ?_;refine zt hS Xh ?_;refine Gp ?_;rw[show decide (0<=t/\t<(ts.length:Int))=decide (t<(L.length:Int)) from yyg.2 ⟨λh=>by omega,λh=>by omega⟩];exact⟨_,⟨rfl,rfl⟩,SL.cR (i_.put hL hS Xp) Xi⟩
 rw[show decide (0<=t/\t<(ts.length:Int))=false from zzz λh=>by omega];exact⟨_,⟨rfl,rfl⟩,SL.cR (i_.put hL hS Xp) Xi⟩
def Jd{ts:List (List Row)}{t:Int}(h:¬(0<=t/\t<ts.length)):ny ts t=[]:=by
 unfold ny;split
 ·rfl
 rw[yyr (by omega)];rfl
def Q4(t:Int)(hn:∀C∈ts,C.length<=1000000):SP 84 [fw sp,.int .i64 t] [.ob (i_ sp ts)] (λu post=>post=[kD u (ny ts t),.ob (i_ sp ts)]):=by
 refine Enzz λW F w hS=>?_;apply ibt;delta SY bW a_ gi bI;refine Cg (yK sp ts t) λw hS=>?_;refine zu (λh=>?_) (λh=>?_)
 ·rw[Jd (yyz h)];exact⟨_,rfl,bR.nil hS⟩
 obtain⟨h0,h1⟩:=zzl h;obtain⟨t,rfl⟩:∃n:Nat,t=n:=⟨t.toNat,by omega⟩;have ht:t<ts.length:=by omega
 rw[tI ts t ht];obtain⟨v,L,hL,hS⟩:=i_.iff.1 hS;obtain⟨b,hb⟩:=Ek hL ht;have hl:=Av hL;refine Gp ?_;refine yq hS Xh BU hb (by omega) (i:=0) rfl ?_;have hS:=zg.take (SL.cR hS (t:=.ob (zg jG L)::.pt sp [v] 241::ou v L::F) Xi) hb;refine Cc (d_9 b ts[t] (hn _ (zzg ht))) ?_;clear hS;rintro u post rfl w hS;try simp only[app]at hS
 have hS:=zg.back (SL.cR hS (t:=.ob (jG (b,ts[t]))::.ob (zg jG (L.eraseIdx t))::kD u ts[t]::.pt sp [v] 241::ou v L::F) Xi) hb;exact⟨_,rfl,SL.cR (i_.put hL hS Xp) Xi⟩
def qO(t key n:Int)(hn:∀C∈ts,C.length<=1000000)(hs:∀C∈ts,lj C)(h1 : -1000000<=n)(h2:n<=9000000000000000000):SP 234 [fw sp,.int .i64 t,.int .i64 key,.int .i64 n] [.ob (i_ sp ts)] (λu post=>post=[kD u (s_ (ny ts t) key n),.ob (i_ sp ts)]):=by
 refine Enzz λW F w hS=>?_;apply gWu;delta PC bW a_ gi bI;refine Cg (yK sp ts t) λw hS=>?_;refine zu (λh=>?_) (λh=>?_)
 ·rw[Jd (yyz h),show s_ [] key n=[] by simp[s_]];exact⟨_,rfl,bR.nil hS⟩
 obtain⟨h0,h3⟩:=zzl h;obtain⟨t,rfl⟩:∃n:Nat,t=n:=⟨t.toNat,by omega⟩;have ht:t<ts.length:=by omega
 rw[tI ts t ht];obtain⟨v,L,hL,hS⟩:=i_.iff.1 hS;obtain⟨b,hb⟩:=Ek hL ht;have hl:=Av hL;refine Gp ?_;refine yq hS Xh BU hb (by omega) (i:=0) rfl ?_;have hS:=zg.take (SL.cR hS (t:=.ob (zg jG L)::.pt sp [v] 241::ou v L::F) Xi) hb;refine Cc (qo b ts[t] key (hs _ (zzg ht)) (hn _ (zzg ht)) n h1 h2) ?_;clear hS;rintro u post rfl w hS;try simp only[app]at hS
 have hS:=zg.back (SL.cR hS (t:=.ob (jG (b,ts[t]))::.ob (zg jG (L.eraseIdx t))::kD u (s_ ts[t] key n)::.pt sp [v] 241::ou v L::F) Xi) hb;exact⟨_,rfl,SL.cR (i_.put hL hS Xp) Xi⟩
end
def EK(n:Int)(u:Ω)(post:Ψ):Prop:=if n<1\/8<n then u= .tuple #[.pointer none,.int .i64 1]/\post=[] else ∃sp,u= .tuple #[fw sp,.int .i64 0]/\post=[.ob (i_ sp (List.replicate n.toNat []))]
def QX(n:Int):SP 137 [.int .i64 n] [] (EK n):=by
 refine Enzz λW F w hS=>?_;apply gF7;delta N3 aI ia aR b_ ai h_ bI;refine Gp ?_;refine za (λh=>⟨[],by unfold EK;rw[zzc (.inl h)];exact⟨rfl,rfl⟩,hS⟩) (λh1=>?_);refine Gp ?_;refine za (λh=>⟨[],by unfold EK;rw[zzc (.inr h)];exact⟨rfl,rfl⟩,hS⟩) (λh2=>?_);refine Gp ?_;refine zw hS λsp w hS=>?_;have hS:SL W (ou (.slice none 0 0) []::_) _:=bR.nil hS;have hS:SL W (.ob (zg jG [])::_) _:=zg.nil hS;refine⟨λus w=>∃(i:Nat) (v:Ω) (L:List (Nat × List Row)),us=[.int .i64 i]/\i<=n/\L.map Prod.snd=List.replicate i []/\SL W (.pt sp [v] 241::ou v L::.ob (zg jG L)::F) w,
  λus _=>match us with|[.int _ i]=>(n-i).toNat|_=>0,⟨0,_,[],rfl,by omega,rfl,aW hS⟩,?_⟩
 clear hS;rintro M6 w ⟨i,v,L,gW,hi,hL,hS⟩;cases gW;have hl:=Av hL;rw[xxf]at hl
 refine cF (λh=>?_) (λh=>?_)
 ·refine Gn λw hS=>?_;have hS:=SL.L8 hS;refine Cc (Yx bw.emp (.slice none 0 0) [] (iD.nil _ _) (by decide)) ?_;clear hS;rintro u post ⟨xb,rfl,rfl⟩ w hS;refine Gm λb w hS=>?_;refine yu (n:=L.length) (xs:=L) (y:=(xb,[])) (enc:=vX) hS Xr Xh BU (λx=>by simp[vX,Value.oneCell']) rfl (by omega) (by omega) λu w hS=>?_;have vv:=bR.one hS;refine Gn λw hS=>?_;refine⟨⟨i+1,u,L++[(xb,[])],rfl,by omega,by rw[zzt,hL,List.replicate_succ'];rfl,?_⟩,by dsimp only;omega⟩;have hS:=hS.u7 (x:=(xb,([]:List Row)));rw[show s5 [] []=[] from rfl]at hS
  have hS:=zg.snoc (SL.cR hS (t:=.ob (zg jG L)::.ob (jG (xb,[]))::.pt sp [u] 241::ou u (L++[(xb,[])])::F) Xi);exact aW hS
 refine⟨[.ob (i_ sp (List.replicate n.toNat []))],?_,SL.cR (i_.put (ts:=List.replicate n.toNat []) (by rw[hL];congr 1;omega) hS Xp) Xi⟩;unfold EK;rw[zzb (by omega)];exact⟨sp,rfl,rfl⟩
def a_z{ts:List (List Row)}(h:∀C∈ts,lj C){c:jB}(ht:mf ts.length c=true):∀C∈oM ts c,lj C:=λC hC=>by
 rcases L9 hC with hC|rfl
 ·exact h C hC
 have h1:=h _ (GC (zzl ht));unfold pI;split
 ·exact aw6 h1 _
 exact MO h1 _
def G3:∀{l:List jB} {ts:List (List Row)},(∀C∈ts,lj C)->(∀c∈l,mf ts.length c=true)->∀C∈kZ ts l,lj C
 | [],ts,h,_=>h
 | c::l,ts,h,h2=>by
  show ∀C∈kZ (oM ts c) l,lj C;refine G3 (a_z h (h2 c (.head _))) λx hx=>?_;rw[BC];exact h2 x (.tail _ hx)
def gwc(b:Nat)(C D:List Row)(c:jB)(hs:lj C)(hn:C.length<=1000000):SP 222 [agg (vX (b,D)),agg (kQ c)] [.ob (jG (b,C))] (λ_ post=>post=[.ob (jG (b,pI C c))]):=by
 refine Enzz λW F w hS=>?_;apply gWi;delta Pq a_;refine zw hS λxb w hS=>?_;refine zw hS λyb w hS=>?_;unfold kQ vX at hS;obtain⟨ct,ck,cg,cv⟩:=c;refine Gp ?_;cases cg with
 | true=>
  refine zq ?_;refine Gp ?_;refine Cc (eFb b C ck hs hn) ?_;clear hS;rintro u post ⟨⟨q,rfl⟩,rfl⟩ w hS;try simp only[app]at hS
  have hS:SL W (.ob (jG (b,pI C ⟨ct,ck,true,cv⟩))::_::_::F) _:=hS;exact⟨_,rfl,aW hS⟩
 | false=>
  refine zp ?_;refine Gp ?_;refine Cc (Yy b C ck hs hn cv) ?_;clear hS;rintro u post ⟨⟨q,rfl⟩,rfl⟩ w hS;try simp only[app]at hS
  have hS:SL W (.ob (jG (b,pI C ⟨ct,ck,false,cv⟩))::_::_::F) _:=hS;exact⟨_,rfl,aW hS⟩
section
variable (sp:Nat) (ts:List (List Row)) (H:bw) (v:Ω) (l:List jB) (hv:iD H 4 v l.length (l.map kQ).flatten) (hl:l.length<=140737488351232)
include hv hl
def YO:SP 213 [fw sp,v] [.ob (i_ sp ts),.mem H] (e_ (.bool (l.all (mf ts.length))) [.ob (i_ sp ts),.mem H]):=by
 refine Enzz λW F w hS=>?_;apply gR9;delta Pf aI a_ gi cW ai gI;refine zo hv ?_;refine⟨λus w=>∃i:Nat,us=[.int .i64 i]/\i<=l.length/\(∀j (h:j<l.length),j<i->mf ts.length l[j]=true)/\SL W (.ob (i_ sp ts)::.mem H::F) w,λus _=>match us with|[.int _ i]=>(l.length-i).toNat|_=>0,⟨0,rfl,by omega,λj h hj=>by omega,hS⟩,?_⟩;clear hS;rintro v9 w ⟨i,gW,hi,jJ,hS⟩;cases gW;refine cF (λh=>?_) (λh=>?_)
 ·have d_:i<l.length:=by omega
  refine zE hS Xh wW hv (x:=l[i]) (by simp[d_]) d_ ?_;have hq:mf ts.length l[i]=decide (0<=l[i].table/\l[i].table<(ts.length:Int)):=rfl;have hf:mf ts.length l[i]=false->l.all (mf ts.length)=false:=λh=>tta.2 ⟨_,zzg d_,by rw[h];decide⟩;have KK:mf ts.length l[i]=true->∀j (h:j<l.length),j<i+1->mf ts.length l[j]=true:=λh j hj m_=>by
   by_cases e:j=i
   ·subst e;exact h
   exact jJ j hj (by omega)
  clear jJ;generalize l[i]=c at *
  obtain⟨ct,ck,cg,cv⟩:=c;refine Gm λb w hS=>?_;refine Cg (yK sp ts ct) λw hS=>?_;refine zu (λhb=>?_) (λhb=>?_)
  ·rw[hf (by rw[hq];exact hb)];(exact dW hS)
  refine Gp ?_;refine⟨⟨i+1,rfl,by omega,KK (by rw[hq];exact hb),aW hS⟩,by dsimp only;omega⟩
 rw[show l.all (mf ts.length)=true from zz5.2 λc hc=>by
  obtain⟨j,hj,rfl⟩:=yyi hc;exact jJ j hj (by omega)]
 (exact dW hS)
def ZM(hs:∀C∈ts,lj C)(N:Nat)(hn:∀C∈ts,C.length<=N)(hN:N+l.length<=1000000):SP 164 [fw sp,v] [.ob (i_ sp ts),.mem H] (e_ (.bool (l.all (mf ts.length))) [.ob (i_ sp (if l.all (mf ts.length)=true then kZ ts l else ts)),.mem H]):=by
 refine Enzz λW F w hS=>?_;apply gI0;delta Oy aI bW a_ gi cW ai gI;refine Cg (YO sp ts H v l hv hl) λw hS=>?_;cases ha:l.all (mf ts.length) with
 | false=>
  refine zq ?_;rw[zzb (by decide)];(exact dW hS)
 | true=>
  refine zp ?_;rw[zzc rfl];have ha:=zz5.1 ha;refine zo hv ?_;refine⟨λus w=>∃i:Nat,us=[.int .i64 i]/\i<=l.length/\SL W (.ob (i_ sp (kZ ts (l.take i)))::.mem H::F) w,λus _=>match us with|[.int _ i]=>(l.length-i).toNat|_=>0,⟨0,rfl,by omega,hS⟩,?_⟩;clear hS;rintro Jf w ⟨i,gW,hi,hS⟩;cases gW;refine cF (λh=>?_) (λh=>?_)
  ·have d_:i<l.length:=by omega
   have k_:kZ ts (l.take (i+1))=oM (kZ ts (l.take i)) l[i]:=by rw[zze d_,To]
   have rm:=ha _ (zzg d_);have AX:=xM ts (l.take i);have xc:=G3 (l:=l.take i) hs λc hc=>ha c (yyn hc);have B8:=G2 N (l:=l.take i) hn λc hc=>ha c (yyn hc);have rr:(l.take i).length<=l.length:=by rw[zzf];omega
   generalize kZ ts (l.take i)=T at *
   refine zE hS Xh wW hv (x:=l[i]) (by simp[d_]) d_ ?_;generalize l[i]=c at *
   obtain⟨ct,ck,cg,cv⟩:=c;obtain⟨h0,h1⟩:0<=ct/\ct<(ts.length:Int):=zzl rm;obtain⟨t,rfl⟩:∃n:Nat,ct=n:=⟨ct.toNat,by omega⟩;have ht:t<T.length:=by omega
   have Ak:T[t]∈T:=zzg ht;obtain⟨pv,L,hL,hS⟩:=i_.iff.1 hS;obtain⟨b0,hb⟩:=Ek hL ht;have KG:=Av hL;refine Gm λb w hS=>?_;refine zU hS Xh BU hb (by omega) ?_;refine Gp ?_;have hS:=zg.take (SL.cR hS (t:=.ob (zg jG L)::.pt sp [pv] 241::ou pv L::.mem H::F) Xi) hb;refine Cc (gwc b0 T[t] T[t] ⟨t,ck,cg,cv⟩ (xc _ Ak) (by have:=B8 _ Ak;omega)) ?_;clear hS;rintro u post rfl w hS;(try simp only[app]at hS);refine Gp ?_
   have hS:=zg.put hS (by omega);have hS:=ou.set (D:=pI T[t] ⟨t,ck,cg,cv⟩) hb (SL.cR hS (t:=ou pv L::.ob (zg jG (L.set t (b0,pI T[t] ⟨t,ck,cg,cv⟩)))::.pt sp [pv] 241::.mem H::F) Xi);refine⟨⟨i+1,rfl,by omega,?_⟩,by dsimp only;omega⟩;rw[k_];refine SL.cR (i_.put (ts:=oM T ⟨t,ck,cg,cv⟩) ?_ hS Xp) Xi;rw[awz hL t b0];unfold oM;rw[tI T t ht];rfl
  obtain rfl:i=l.length:=by omega
  rw[zz1]at hS
  (exact dW hS)
end
structure EI{κ:Type}[DecidableEq κ](P:Program)(kt:Ε)(key:κ->Ω):Prop where
 wide:∃fs,P.underlying kt=some (.struct fs)
 check:∀(k:κ) (em:Bool) (w:Α),(Instr.checkKey em 10000 kt (key k)).run P w= .ok () w
 eq:∀(a b:κ) (w:Α),(Op.equal kt (key a) (key b)).run P w= .ok (decide (a=b)) w
 stays:∀(k:κ) (w:Α),(Instr.keyThatStays (key k) (key k)).run P w= .ok (key k) w
 inj:∀{a b:κ},key a=key b->a=b
section
variable {W w:Α} {l l':Ψ} {κ α:Type} [DecidableEq κ] {key:κ->Ω} {val:α->Ω} {b:Nat} {m:List (κ × α)} {P:Program} {t kt et:Ε} {z:Ω} {k:κ}
def Hl(ok:EI P kt key)(k:κ)(es:List MapEntry):(Instr.findKey kt (key k) es).run P w=(Instr.findAsking kt (key k) es).run P w:=by
 obtain⟨fs,hd⟩:=ok.wide;cases es with
 | nil=>simp[Instr.findKey,yym hd,Result.andThen,Instr.findNow,Instr.findAsking]
 | cons e es=>simp[Instr.findKey,yym hd,Result.andThen,Instr.findNow,Instr.sameNow]
def Kn(ok:EI P kt key)(k:κ):∀(es:List MapEntry) (m:List (κ × α)) (i:Nat),es.map kv=m.map (kw key val) ->
  ((Instr.findAsking kt (key k) es i).run P w= .ok none w/\kN m k=none/\(∀v,lM m k v=m++[(k,v)])/\∀x∈es,x.key≠key k) \/
  ∃j e a,(Instr.findAsking kt (key k) es i).run P w= .ok (some (i+j,val a)) w/\es[j]?=some e/\e.key=key k/\kN m k=some a /\
   (∀v,(es.modify j λe=>{e with key:=key k,val:=val v}).map kv=(lM m k v).map (kw key val))
 | [],[],_,_=>.inl ⟨rfl,rfl,λ_=>rfl,by simp⟩
 | [],_::_,_,h=>by simp at h
 | _::_,[],_,h=>by simp at h
 | e::es,p::m,i,h=>by
  simp only[zzn,List.cons.injEq]at h;obtain⟨h1,h2⟩:=h;obtain⟨x,y⟩:=p;simp only[kv,kw,www]at h1;obtain⟨tU,Dx⟩:=h1;have hq:=ok.eq k x w;by_cases hx:x=k
  ·subst hx;rw[zzm rfl]at hq
   refine .inr ⟨0,e,y,by simp[Instr.findAsking,tU,hq,Dx,Result.andThen],rfl,tU,by simp[kN],?_⟩;intro v;simp[lM,kv,kw];exact h2
  rw[zzz (λh=>hx h.symm)]at hq
  rcases Kn ok k es m (i+1) h2 with ⟨a1,a2,a3,a5⟩|⟨j,e',a,a1,a2,a3,a4,a5⟩
  ·refine .inl ⟨by simp[Instr.findAsking,tU,hq,a1,Result.andThen],by simp[kN,hx,a2],λv=>by simp[lM,hx,a3],?_⟩;intro z hz;rcases zz7.1 hz with rfl|hz
   ·rw[tU];exact λq=>hx (ok.inj q)
   exact a5 z hz
  refine .inr ⟨j+1,e',a,by simp[Instr.findAsking,tU,hq,a1,Result.andThen];omega,by simpa using a2,a3,by simp[kN,hx,a4],?_⟩;intro v;simp[lM,hx,kv,kw,tU,Dx];exact a5 v
def fWy{K:Ω->Prop}(hS:SL W l w)(hm:Has (.ob (jH key val b m)) l)(ok:EI P kt key)(ht:P.underlying t=some (.map kt et))(hz:∀w,(zeroValue et).run P w= .ok z w)
  (h:K (.tuple #[((kN m k).map val).getD z,.bool (kN m k).isSome])):jY P (Instr.lookup t (.map (some b)) (key k) true) w K:=by
 obtain⟨es,c,e1,e2,hb⟩:=hS.CL hm;rcases Kn (w:=w) ok k es m 0 e1 with ⟨a1,a2,_,_⟩|⟨j,e,a,a1,_,_,a4,_⟩
 ·refine⟨_,?_,h⟩;simp[Instr.lookup,yym ht,yyv hb,ok.check,Hl ok,a1,hz,Result.andThen,a2]
 refine⟨_,?_,h⟩;simp[Instr.lookup,yym ht,yyv hb,ok.check,Hl ok,a1,Result.andThen,a4]
def fWz{v:α}{K:Ω->Α->Prop}(hS:SL W l w)(u:lk (.ob (jH key val b m)) (.ob (jH key val b (lM m k v))) l l')(ok:EI P kt key)(ht:P.underlying t=some (.map kt et))
  (h:∀u w',SL W l' w'->K u w'):zR P (do Instr.mapUpdate t (.map (some b)) (key k) (val v);pure undef) w K:=by
 obtain⟨es,c,e1,e2,hb⟩:=hS.CL u.has;rcases Kn (w:=w) ok k es m 0 e1 with ⟨a1,_,a3,a5⟩|⟨j,e,a,a1,a2,a3,_,a5⟩
 ·refine⟨undef,{w with heap:=w.heap.setIfInBounds b (.map (es++[({key:=key k,val:=val v,born:=c}:MapEntry)]).toArray (c+1))},?_,h _ _ (hS.D6 u hb (by rw[a3];simp[e1,kv,kw]) ?_)⟩
  ·simp[Instr.mapUpdate,yym ht,yyv hb,ok.check,Hl ok,a1,wwc _ hb,Result.andThen]
  have:=MapKept.stamped_push e2 (key:=key k) (val:=val v) (by simpa using a5);simpa using this
 refine⟨undef,{w with heap:=w.heap.setIfInBounds b (.map (es.modify j λe=>{e with key:=key k,val:=val v}).toArray c)},?_,h _ _ (hS.D6 u hb (a5 v) ?_)⟩
 ·have hj:es.toArray[j]?=some e:=by simpa using a2
  simp[Instr.mapUpdate,yym ht,yyv hb,ok.check,Hl ok,a1,a2,a3,ok.stays,wwc _ hb,Result.andThen]
 have Ck:∀e',es.toArray[j]?=some e'->({e' with key:=key k,val:=val v}:MapEntry).key=e'.key:=λe' rj=>by
  have:es[j]?=some e':=by simpa using rj
  rw[a2]at this;cases this;exact a3.symm
 have:=MapKept.stamped_modify e2 j (λe=>{e with key:=key k,val:=val v}) (λ_ _=>rfl) (λe' _ rj=>Ck e' rj);simpa using this
end
def E9(p:Int × Int):Γ:=[.int .i64 p.1,.int .i64 p.2]
def pX(p:Int × Int):Ω:=agg (E9 p)
def cwc(a b:Int × Int)(w:Α):(Op.equal 336 (pX a) (pX b)).run Tryz.prog w= .ok (decide (a=b)) w:=by
 refine I0 uu7 (by kernel_rfl) ?_;obtain⟨k1,v1⟩:=a;obtain⟨k2,v2⟩:=b;simp[E9,Op.eqFields,part,wwe (h:=yyx),wwe (h:=yye),Result.andThen];by_cases h0:k1=k2<;>by_cases h1:v1=v2<;>simp[*]
def Y_:EI Tryz.prog 336 pX where
 wide:=⟨_,uu7⟩
 check:=λk em w=>by
  obtain⟨a,b⟩:=k;have h1:(Instr.checkKey em 9999 3 (.int .i64 a)).run Tryz.prog w= .ok () w:=xxd (k:=.int .i64 a) yye (ue .i64 |>.is a) em 9998;have h2:(Instr.checkKey em 9999 2 (.int .i64 b)).run Tryz.prog w= .ok () w:=xxd (k:=.int .i64 b) yyx (ue .i64 |>.is b) em 9998;show (Instr.checkKey em (9999+1) _ _).run Tryz.prog w=_;unfold Instr.checkKey;simp[pX,E9,yym uu7,part,h1,h2,Result.andThen]
 eq:=cwc
 stays:=λk w=>by
  have:Instr.sameBits 10000 (pX k) (pX k)=true:=by simp[pX,E9,Instr.sameBits]
  simp[Instr.keyThatStays,this]
 inj:=λ{a b} h=>by
  obtain⟨a1,a2⟩:=a;obtain⟨b1,b2⟩:=b;simp[pX,E9]at h
  rw[h.1,h.2]
def f_d{W w:Α}{l:Ψ}{α:Type}{enc:α->Γ}{v:Ω}{t:Ε}{sz j:Nat}{k:IntKind}{xs:List α}{y:α}{K:Α->Prop}(hS:SL W (.ob (bR v t sz xs.length (xs.map enc).flatten)::l) w)(hn:∀x,(enc x).length=sz)
  (hj:j<xs.length) (h1:∀v∈enc y,v.oneCell'=true) (hK:∀w',SL W (.ob (bR v t sz (xs.set j y).length ((xs.set j y).map enc).flatten)::l) w'->K w'):zl sz v (.int k (j:Int)) λq=>zi sz q (agg (enc y)) w K:=by
 rcases bR.open hS with ⟨_,h0,_⟩|⟨b,cap,rest,rfl,hc,hlen,nY,hS⟩
 ·omega
 have iw:j*sz+sz<=xs.length*sz:=by
  have:(j+1)*sz<=xs.length*sz:=yyt _ hj
  rwa [yyy,wwl]at this
 refine zF hj ?_;rw[yyd];refine Yd hS .hd (hn y) (by rw[zza];omega) h1 λw' hS=>hK w' ?_;have e:((xs.map enc).flatten++rest).take (j*sz)++enc y++((xs.map enc).flatten++rest).drop (j*sz+sz)=((xs.set j y).map enc).flatten++rest:=by
  rw[yy9 (by omega),xxa (by omega),xV hn,show j*sz+sz=(j+1)*sz by rw[yyy,wwl],AS hn,xxb,zzc hj];simp
 rw[e]at hS
 have hl:(xs.set j y).length=xs.length:=yyh;rw[hl];exact bR.mk hc (by rw[tR hn,hl]) nY hS
def Q3(sp:Nat)(ts:List (List Row))(H:bw)(v:Ω)(t:Nat)(l:List Row)(ht:t<ts.length)(hv:iD H 2 v l.length (l.map jA).flatten)(hs:lj l)(hl:l.length<=100000):
  SP 199 [fw sp,.int .i64 (t:Int),v] [.ob (i_ sp ts),.mem H] (e_ (.bool true) [.ob (i_ sp (ts.set t l)),.mem H]):=by
 refine Enzz λW F w hS=>?_;apply gRv;delta O3 aR b_ h_;refine Cg (yK sp ts t) λw hS=>?_;refine za (λ_=>?_) (λh=>by omega);obtain⟨pv,L,hL,hS⟩:=i_.iff.1 hS;have hl2:=Av hL;obtain⟨b0,hb⟩:=Ek hL ht;refine Gn λw hS=>?_;refine Cc (Yx H v l hv hl) ?_;clear hS;rintro u post ⟨xb,rfl,rfl⟩ w hS;try simp only[app]at hS
 rw[fIb hs]at hS
 refine Gp ?_;refine f_d (enc:=vX) (y:=(xb,l)) (SL.cR hS (t:=ou pv L::.ob (zg jG L)::.ob (jG (xb,l))::.pt sp [pv] 241::.mem H::F) Xi) BU (by omega) (by simp[vX,Value.oneCell']) λw hS=>?_;have hS:=zg.take (SL.cR hS (t:=.ob (zg jG L)::.ob (jG (xb,l))::.pt sp [pv] 241::ou pv (L.set t (xb,l))::.mem H::F) Xi) hb;have hS:=zg.put (SL.cR hS (t:=.ob (jG (xb,l))::.ob (zg jG (L.eraseIdx t))::.pt sp [pv] 241::ou pv (L.set t (xb,l))::.mem H::F) Xi) (by omega);have hS:=i_.put (awz hL t xb l) hS Xp;refine Cg (yK sp (ts.set t l) t) λw hS=>?_;rw[show decide (0<=(t:Int)/\(t:Int)<((ts.set t l).length:Int))=true from zzm (by rw[yyh];omega)];(exact dW hS)
def WI:∀{C:List Row},lj C->∀(k:Int) (v:Β),(lW C ⟨k,v⟩).length=C.length+if (jW C k).isSome=true then 0 else 1
 | [],_,k,v=>by simp[lW,jW]
 | x::C,h,k,v=>by
  unfold lj at h;rw[yyj]at h
  unfold lW;by_cases h1:x.key<k
  ·have hg:jW (x::C) k=jW C k:=by unfold jW;rw[xxo];simp[show ¬x.key=k by omega]
   rw[zzc h1,zzj,WI (C:=C) h.2 k v,zzj,hg];omega
  rw[zzb h1];by_cases h2:x.key=k
  ·have hg:(jW (x::C) k).isSome=true:=by unfold jW;rw[xxo];simp[h2]
   rw[zzc h2,hg];simp
  have hg:jW (x::C) k=none:=by
   unfold jW;have:(x::C).find? (λc=>decide (c.key=k))=none:=by
    rw[uu4];intro y hy;rcases zz7.1 hy with rfl|hy
    ·simpa using h2
    have:=h.1 y hy;simp;omega
   rw[this];rfl
  rw[zzb h2,hg];simp
def Ue:∀(C:List Row) (k:Int),((ow C k).length:Int)=C.length-if (jW C k).isSome=true then 1 else 0
 | [],k=>by simp[ow,jW]
 | x::C,k=>by
  unfold ow;by_cases h:x.key=k
  ·have hg:(jW (x::C) k).isSome=true:=by unfold jW;rw[xxo];simp[h]
   rw[zzc h,hg];simp
  have hg:jW (x::C) k=jW C k:=by unfold jW;rw[xxo];simp[h]
  rw[zzb h,hg,zzj,zzj];have:=Ue C k;omega
def fRv{C:List Row}(h:lj C)(c:jB):((pI C c).length:Int)=C.length+(if (jW C c.key).isSome=true then (if c.gone=true then -1 else 0) else (if c.gone=true then 0 else 1)):=by
 unfold pI;cases c.gone with
 | true=>
  rw[zzc rfl,Ue];split<;>simp<;>omega
 | false=>
  rw[zzb (by decide)];have:=WI h c.key c.val;rw[this];split<;>simp
def fRw{C:List Row}(h:lj C)(c:jB)(k:Int):(jW (pI C c) k).isSome=if c.key=k then !c.gone else (jW C k).isSome:=by
 unfold pI;cases hg:c.gone with
 | true=>
  rw[zzc rfl,US h];split<;>rfl
 | false=>
  rw[zzb (by decide),UT];split<;>rfl
def EJ(ts T:List (List Row))(m:List ((Int × Int) × Bool)):Prop:=∀p:Int × Int,match kN m p with
 | none=>jW (ny T p.1) p.2=jW (ny ts p.1) p.2
 | some b=>(jW (ny T p.1) p.2).isSome=b
def e_i{κ α:Type}[DecidableEq κ](m:List (κ × α))(k:κ)(v:α)(k':κ):kN (lM m k v) k'=if k=k' then some v else kN m k':=by
 induction m with
 | nil=>simp[lM,kN]
 | cons p m ih=>
  unfold lM;by_cases h:p.1=k
  ·rw[zzc h];by_cases h1:k=k'
   ·simp[kN,h1]
   simp[kN,h1,show ¬p.1=k' by rw[h];exact h1]
  rw[zzb h];by_cases h1:p.1=k'
  ·have:¬k=k':=λe=>h (by rw[h1,e]);simp[kN,h1,this]
  simp only[kN,zzb h1];exact ih
def gi1{T:List (List Row)}{c:jB}(hc:mf T.length c=true)(t:Int):ny (oM T c) t=if t=c.table then pI (ny T c.table) c else ny T t:=by
 obtain⟨h0,h1⟩:=zzl hc;unfold oM;by_cases ht:0<=t/\t<(T.length:Int)
 ·obtain⟨n,rfl⟩:∃n:Nat,t=n:=⟨t.toNat,by omega⟩;have hn:n<T.length:=by omega
  rw[tI _ n (by rw[yyh];exact hn),xxi];by_cases e:c.table.toNat=n
  ·rw[zzc e,zzc (by omega)]
  rw[zzb e,zzb (by omega),tI T n hn]
 rw[Jd (by rw[yyh];exact ht),zzb (by omega),Jd ht]
def EJ.step{ts T:List (List Row)}{m:List ((Int × Int) × Bool)}(h:EJ ts T m)(hs:∀C∈T,lj C){c:jB}(hc:mf T.length c=true):EJ ts (oM T c) (lM m (c.table,c.key) (!c.gone)):=by
 have Wa:=hs _ (GC (zzl hc));rintro ⟨t,k⟩;rw[e_i];have hk:=h (t,k);simp only at hk ⊢;rw[gi1 hc];by_cases e:(c.table,c.key)=(t,k)
 ·rw[zzc e];simp only[www]at e;rw[zzc e.1.symm,fRw Wa,zzc e.2]
 rw[zzb e];simp only[www,not_and]at e;by_cases e1:t=c.table
 ·rw[zzc e1];have e2:=e e1.symm;subst e1;have hg:jW (pI (ny T c.table) c) k=jW (ny T c.table) k:=by
   unfold pI;split
   ·rw[US Wa,zzb e2]
   rw[UT,zzb e2]
  rw[hg];exact hk
 rw[zzb e1];exact hk
def oO(T:List (List Row)):Γ:=T.map λC=>.int .i64 (C.length:Nat)
def bFq(T:List (List Row)):(oO T).length=T.length:=by simp[oO]
def TQ{T:List (List Row)}{c:jB}{t:Nat}(ht:c.table=t)(h:t<T.length):oO (oM T c)=(oO T).set t (.int .i64 ((pI T[t] c).length:Nat)):=by
 unfold oO oM;rw[vvg,ht,zzv,tI T t h]
def bFr{T:List (List Row)}{c:jB}{t:Nat}(ht:c.table=t)(h:t<T.length)(hl:(pI T[t] c).length=T[t].length):oO (oM T c)=oO T:=by
 rw[TQ ht h,hl];unfold oO;rw[<- vvg (f:=λC:List Row=>Value.int .i64 (C.length:Nat)) (a:=T[t]),uuo]
def J4{T:List (List Row)}{t:Nat}(h:t<T.length):(oO T)[t]?=some (.int .i64 (T[t].length:Nat)):=by simp[oO,h]
def Y1{W w:Α}{l:Ψ}{v u:Ω}{t:Ε}{n j:Nat}{k:IntKind}{cells:Γ}{K:Α->Prop}(hS:SL W (.ob (bR v t 1 n cells)::l) w)(hj:j<n)(h1:u.oneCell'=true)
  (hK:∀w',SL W (.ob (bR v t 1 n (cells.set j u))::l) w'->K w'):zl 1 v (.int k (j:Int)) λq=>jN q u w K:=by
 rcases bR.open hS with ⟨_,h0,_⟩|⟨b,cap,rest,rfl,hc,hlen,nY,hS⟩
 ·omega
 refine zF hj ?_;rw[yyd,vvr];refine Zz hS .hd (zzd (by rw[zza];omega)) h1 λw' hS=>hK w' ?_;rw[wwm _ _ (by omega)]at hS
 exact bR.mk hc (by rw[yyh];exact hlen) nY hS
def Ur(t k:Int)(g:Bool)(v:Β):kQ ⟨t,k,g,v⟩=[.int .i64 t,.int .i64 k,.bool g,.string v]:=rfl
def Q2(sp:Nat)(ts:List (List Row))(H:bw)(v:Ω)(l:List jB)(hv:iD H 4 v l.length (l.map kQ).flatten)(hl:l.length<=140737488351232)(hs:∀C∈ts,lj C)(hn:∀C∈ts,C.length<=1000000)(hl6:l.length<=1000000)(F0:ts.length<=1000):
  SP 161 [fw sp,v] [.ob (i_ sp ts),.mem H] (e_ (.bool (rL ts l)) [.ob (i_ sp ts),.mem H]):=by
 refine Enzz λW F w hS=>?_;apply gIx;delta Ov aI bW a_ gi cW ai h_ gI;refine Cg (YO sp ts H v l hv hl) λw hS=>?_;cases ha:l.all (mf ts.length) with
 | false=>
  refine zq ?_;rw[show rL ts l=false by unfold rL;rw[ha];rfl];(exact dW hS)
 | true=>
  refine zp ?_;have hF:rL ts l=(kZ ts l).all λC=>decide (C.length<=1000):=by unfold rL;rw[ha];rfl
  have ha:=zz5.1 ha;obtain⟨pv,L,hL,hS⟩:=i_.iff.1 hS;have KG:=Av hL;refine Gp ?_;refine zt hS Xh ?_;refine awg hS (zzi _) (by omega) (by omega) λnb w hS=>?_;have hS:=bR.full (sz:=1) (n:=L.length) (by rw[p5];rfl) hS;refine Gp ?_;refine zt hS Xh ?_;refine⟨λus w=>∃(i:Nat) (cells:Γ),us=[.int .i64 i]/\i<=L.length/\cells.length=L.length/\(∀j (h:j<ts.length),j<i->cells[j]?=some (.int .i64 (ts[j].length:Nat)))/\SL W (.ob (bR (.slice (some ⟨nb,0,none⟩) L.length L.length) 3 1 L.length cells)::.pt sp [pv] 241::ou pv L::.ob (zg jG L)::.mem H::F) w,
   λus _=>match us with|[.int _ i]=>(L.length-i).toNat|_=>0,⟨0,fR [.int .i64 0] L.length,rfl,by omega,by rw[p5];exact vvr _,λj h hj=>by omega,aW hS⟩,?_⟩
  clear hS;rintro v31 w ⟨i,cells,gW,hi,sj,nP,hS⟩;cases gW;refine cF (λh=>?_) (λh=>?_)
  ·have d_:i<ts.length:=by omega
   obtain⟨b0,hb⟩:=Ek hL d_;refine zU hS Xh BU hb (by omega) ?_;unfold vX;refine Gm λb w hS=>?_;have hS:=zg.take (SL.cR hS (t:=.ob (zg jG L)::.ob (bR (.slice (some ⟨nb,0,none⟩) L.length L.length) 3 1 L.length cells)::.pt sp [pv] 241::ou pv L::.mem H::F) Xi) hb;refine Cc (eFi b0 ts[i]) ?_;clear hS;rintro u post ⟨rfl,rfl⟩ w hS;try simp only[app]at hS
   have hS:=zg.back hS hb;refine Y1 (SL.cR hS (t:=.ob (bR (.slice (some ⟨nb,0,none⟩) L.length L.length) 3 1 L.length cells)::.pt sp [pv] 241::ou pv L::.ob (zg jG L)::.mem H::F) Xi) (by omega) rfl λw hS=>?_;refine Gp ?_;refine⟨⟨i+1,_,rfl,by omega,by rw[yyh];exact sj,λj hj m_=>?_,hS⟩,by dsimp only;omega⟩;rw[List.getElem?_set];by_cases e:i=j
   ·subst e;rw[zzc rfl,zzc (by omega)]
   rw[zzb e];exact nP j hj (by omega)
  obtain rfl:i=L.length:=by omega
  have HH:cells=oO ts:=by
   refine uuk λj=>?_;rcases xxv j ts.length with hj|hj
   ·rw[nP j hj (by omega),J4 hj]
   rw[yyr (by omega),yyr (by rw[bFq];omega)]
  subst HH;clear nP sj;have hS:=i_.put hL hS Xp;clear hL;refine zo hv ?_;have hS:=hS.LZ (key:=pX) (val:=Value.bool);generalize w.heap.size=mb at *
  generalize w.alloc (.map #[] 0)=w at *
  rw[show oO ts=oO (kZ ts (l.take 0)) from rfl]at hS
  refine⟨λus w=>∃(i:Nat) (m:List ((Int × Int) × Bool)),us=[.int .i64 i]/\i<=l.length/\EJ ts (kZ ts (l.take i)) m/\SL W (.ob (i_ sp ts)::.ob (jH pX Value.bool mb m)::.ob (bR (.slice (some ⟨nb,0,none⟩) L.length L.length) 3 1 L.length (oO (kZ ts (l.take i))))::.mem H::F) w,
   λus _=>match us with|[.int _ i]=>(l.length-i).toNat|_=>0,⟨0,[],rfl,by omega,λp=>rfl,aW hS⟩,?_⟩
  clear hS;rintro v46 w ⟨i,m,gW,hi,hM,hS⟩;cases gW;refine cF (λh=>?_) (λh=>?_)
  ·have d_:i<l.length:=by omega
   have k_:kZ ts (l.take (i+1))=oM (kZ ts (l.take i)) l[i]:=by rw[zze d_,To]
   have rm:=ha _ (zzg d_);have AX:=xM ts (l.take i);have xc:=G3 (l:=l.take i) hs λc hc=>ha c (yyn hc);have B8:=G2 1000000 (l:=l.take i) hn λc hc=>ha c (yyn hc);have rr:(l.take i).length<=l.length:=by rw[zzf];omega
   generalize kZ ts (l.take i)=T at *
   refine zE hS Xh wW hv (x:=l[i]) (by simp[d_]) d_ ?_;generalize l[i]=c at *
   obtain⟨ct,ck,cg,cv⟩:=c;obtain⟨h0,h1⟩:0<=ct/\ct<(ts.length:Int):=zzl rm;obtain⟨t,rfl⟩:∃n:Nat,ct=n:=⟨ct.toNat,by omega⟩;have ht:t<T.length:=by omega
   have l9:t<ts.length:=by omega
   have Ak:T[t]∈T:=zzg ht;have iw:=B8 _ Ak;have xa:=hM (t,ck);have x8:=hM.step xc (c:=⟨t,ck,cg,cv⟩) (by rw[AX];exact rm);have wj:=fRv (xc _ Ak) ⟨t,ck,cg,cv⟩;simp only at xa x8 wj;rw[tI T t ht,tI ts t l9]at xa
   rw[<- k_]at x8
   clear hM;rw[Ur];refine Gb λcb w hS=>?_;refine Gb λpb w hS=>?_;refine fWy (key:=pX) (val:=Value.bool) (z:=.bool false) (k:=((t:Int),ck)) hS Xh Y_ Tryz.underlying334 (λw=>by kernel_rfl) ?_;refine Gp ?_;refine⟨λus w=>us=[.bool (jW T[t] ck).isSome]/\SL W (.pt pb [.int .i64 t,.int .i64 ck] 336::.pt cb [.int .i64 t,.int .i64 ck,.bool cg,.string cv] 56::.ob (i_ sp ts)::.ob (jH pX Value.bool mb m)::.ob (bR (.slice (some ⟨nb,0,none⟩) L.length L.length) 3 1 L.length (oO T))::.mem H::F) w,?_,?_⟩
   ·cases DL:kN m ((t:Int),ck) with
    | none=>
     rw[DL]at xa
     refine zZ (zq ?_);have xa:jW T[t] ck=jW ts[t] ck:=xa;obtain⟨pv,L2,hL,hS⟩:=i_.iff.1 (SL.cR hS (t:=.ob (i_ sp ts)::.pt pb [.int .i64 t,.int .i64 ck] 336::.pt cb [.int .i64 t,.int .i64 ck,.bool cg,.string cv] 56::.ob (jH pX Value.bool mb m)::.ob (bR (.slice (some ⟨nb,0,none⟩) L.length L.length) 3 1 L.length (oO T))::.mem H::F) Xi);obtain⟨b0,hb⟩:=Ek hL l9;have ies:=Av hL;refine Gn λw hS=>?_;refine yq hS Xh BU hb (by omega) (i:=0) rfl ?_;refine Gp ?_;have hS:=zg.take (SL.cR hS (t:=.ob (zg jG L2)::.pt sp [pv] 241::ou pv L2::.pt pb [.int .i64 t,.int .i64 ck] 336::.pt cb [.int .i64 t,.int .i64 ck,.bool cg,.string cv] 56::.ob (jH pX Value.bool mb m)::.ob (bR (.slice (some ⟨nb,0,none⟩) L.length L.length) 3 1 L.length (oO T))::.mem H::F) Xi) hb;refine Cc (eFg b0 ts[t] ck (hs _ (zzg l9)) (hn _ (zzg l9))) ?_;clear hS;rintro u post ⟨rfl,rfl⟩ w hS;try simp only[app]at hS
     have hS:=i_.put hL (zg.back hS hb) Xp;unfold UQ;refine Gp ?_;exact⟨by rw[xa],aW hS⟩
    | some q=>
     rw[DL]at xa
     have xa:(jW T[t] ck).isSome=q:=xa;refine zZ (zp ?_);exact⟨by rw[xa];rfl,aW hS⟩
   clear hS;rintro v12 w ⟨gW,hS⟩;cases gW;refine Gp ?_;refine fWz (key:=pX) (val:=Value.bool) (k:=((t:Int),ck)) (v:=!cg) hS Xu Y_ Tryz.underlying334 λ_ w hS=>?_;have l8:∀{w:Α} {cells:Γ},cells=oO (kZ ts (l.take (i+1)))->SL W (.ob (bR (.slice (some ⟨nb,0,none⟩) L.length L.length) 3 1 L.length cells)::.ob (i_ sp ts)::.ob (jH pX Value.bool mb (lM m ((t:Int),ck) (!cg)))::.mem H::F) w ->
     ∃(i':Nat) (m':List ((Int × Int) × Bool)),[Value.int .i64 ((i+1:Nat):Int)]=[.int .i64 i']/\i'<=l.length/\EJ ts (kZ ts (l.take i')) m'/\SL W (.ob (i_ sp ts)::.ob (jH pX Value.bool mb m')::.ob (bR (.slice (some ⟨nb,0,none⟩) L.length L.length) 3 1 L.length (oO (kZ ts (l.take i'))))::.mem H::F) w:=λe hS=>by
    subst e;exact⟨i+1,_,rfl,by omega,x8,aW hS⟩
   have Vi:=J4 ht;have xf:=TQ (T:=T) (c:=⟨t,ck,cg,cv⟩) rfl ht;have Aj:=bFr (T:=T) (c:=⟨t,ck,cg,cv⟩) rfl ht;rw[<- k_]at xf Aj
   refine⟨λus w=>us=[.bool ((jW T[t] ck).isSome && cg)]/\SL W (.pt cb [.int .i64 t,.int .i64 ck,.bool cg,.string cv] 56::.ob (i_ sp ts)::.ob (jH pX Value.bool mb (lM m ((t:Int),ck) (!cg)))::.ob (bR (.slice (some ⟨nb,0,none⟩) L.length L.length) 3 1 L.length (oO T))::.mem H::F) w,?_,?_⟩
   ·cases (jW T[t] ck).isSome with
    | false=>
     refine Gp ?_;exact⟨rfl,aW hS⟩
    | true=>
     refine Gp ?_;exact⟨by simp,aW hS⟩
   clear hS;rintro v83 w ⟨gW,hS⟩;cases gW;cases hw:(jW T[t] ck).isSome<;>cases cg<;>rw[hw]at wj
   ·refine zp (zZ (zq ?_));refine Gp ?_;refine zq ?_;refine Gp ?_;refine yg hS Xh (by omega) Vi ?_;refine Gp ?_;refine Y1 (SL.cR hS (t:=.ob (bR (.slice (some ⟨nb,0,none⟩) L.length L.length) 3 1 L.length (oO T))::.ob (i_ sp ts)::.ob (jH pX Value.bool mb (lM m ((t:Int),ck) (!false)))::.mem H::F) Xi) (by omega) rfl λw hS=>?_;refine Gp ?_;exact⟨l8 (by rw[xf];congr 2;simp at wj;omega) hS,by dsimp only;omega⟩
   ·refine zp (zZ (zq ?_));refine Gp ?_;refine zp ?_;refine Gp ?_;exact⟨l8 (Aj (by simp at wj;omega)).symm (aW hS),by dsimp only;omega⟩
   ·refine zp (zZ (zp ?_));refine Gp ?_;exact⟨l8 (Aj (by simp at wj;omega)).symm (aW hS),by dsimp only;omega⟩
   refine zq ?_;refine Gp ?_;refine yg hS Xh (by omega) Vi ?_;refine Gp ?_;refine Y1 (SL.cR hS (t:=.ob (bR (.slice (some ⟨nb,0,none⟩) L.length L.length) 3 1 L.length (oO T))::.ob (i_ sp ts)::.ob (jH pX Value.bool mb (lM m ((t:Int),ck) (!true)))::.mem H::F) Xi) (by omega) rfl λw hS=>?_;refine Gp ?_;exact⟨l8 (by rw[xf];congr 2;simp at wj;omega) hS,by dsimp only;omega⟩
  obtain rfl:i=l.length:=by omega
  rw[zz1]at hS
  have AX:=xM ts l;generalize kZ ts l=T at *
  refine Gp ?_;refine⟨λus w=>∃j:Nat,us=[.int .i64 j]/\j<=T.length/\(∀k (h:k<T.length),k<j->T[k].length<=1000)/\SL W (.ob (i_ sp ts)::.ob (bR (.slice (some ⟨nb,0,none⟩) L.length L.length) 3 1 L.length (oO T))::.mem H::F) w,
   λus _=>match us with|[.int _ i]=>(T.length-i).toNat|_=>0,⟨0,rfl,by omega,λk h hk=>by omega,aW hS⟩,?_⟩
  clear hS;rintro ig8 w ⟨j,gW,hj,jJ,hS⟩;cases gW;refine cF (λh=>?_) (λh=>?_)
  ·have lV:j<T.length:=by omega
   refine yg hS Xh (by omega) (J4 lV) ?_;refine cF (λh2=>?_) (λh2=>?_)
   ·rw[hF,show (T.all λC=>decide (C.length<=1000))=false from tta.2 ⟨_,zzg lV,by simp;omega⟩];(exact dW hS)
   refine Gp ?_;refine⟨⟨j+1,rfl,by omega,λk hk K7=>?_,hS⟩,by dsimp only;omega⟩;by_cases e:k=j
   ·subst e;omega
   exact jJ k hk (by omega)
  rw[hF,show (T.all λC=>decide (C.length<=1000))=true from zz5.2 λC hC=>by
   obtain⟨k,hk,rfl⟩:=yyi hC;exact zzm (jJ k hk (by omega))]
  (exact dW hS)
def qB(c:jB)(k:Int):SP 212 [agg (kQ c),.int .i64 k] [] (e_ (.bool (rS c k)) []):=by
 refine Enzz λW F w hS=>?_;apply gR8;delta Pe aI a_ gi cW ai;refine zw hS λb w hS=>?_;unfold kQ at hS;have hF:∀{w:Α},¬(0<=c.table/\c.table<k/\1<=c.key/\c.key<=1099511627776/\c.val.size<=32)->SL W (.pt b [.int .i64 c.table,.int .i64 c.key,.bool c.gone,.string c.val] 56::F) w ->
   ∃post,e_ (.bool (rS c k)) [] (.bool false) post/\SL W (app post F) w:=λh hS=>⟨_,⟨by rw[show rS c k=false by unfold rS;rw[yy7];exact λk=>h ⟨k.1,k.2.1,k.2.2.1,k.2.2.2.1,k.2.2.2.2.1⟩],rfl⟩,aW hS⟩
 refine Gp ?_;refine za (λ_=>hF (by omega) hS) (λ_=>?_);refine Gp ?_;refine za (λ_=>hF (by omega) hS) (λ_=>?_);refine Gp ?_;refine za (λ_=>hF (by omega) hS) (λ_=>?_);refine Gp ?_;refine za (λ_=>hF (by omega) hS) (λ_=>?_);(repeat (first|refine Gp ?_|refine Gw λw hS=>?_|refine za (λ_=>hF (by omega) hS) (λ_=>?_)|refine za (λ_=>?_) (λ_=>hF (by omega) hS)))
 have e:rS c k=decide (c.gone=true->c.val=emp):=by
  unfold rS;rw[yyg];exact⟨λh=>h.2.2.2.2.2,λh=>⟨by omega,by omega,by omega,by omega,by omega,h⟩⟩
 rw[e];refine zu (λh=>?_) (λh=>?_)
 ·rw[h,zzm (by simp)];(exact dW hS)
 refine Gp ?_;rw[h];have e2:decide (true=true->c.val=emp)=decide (c.val={data:=#[]}):=by rw[yyg];exact⟨λh=>h rfl,λh _=>h⟩
 rw[e2];(exact dW hS)
def Xj{t:fF}(h:¬(1<=t.aw/\t.aw<=1099511627776)):jC t=false:=by
 unfold jC;rw[zzz h];rfl
def L4{t:fF}(hk:t.kind=1)(h:¬(t.mark=0/\t.changes.length<=16/\t.signals.length<=2)):jC t=false:=by
 unfold jC;rw[zzc hk,zzz h];simp
def eW6{t:fF}{i:Nat}(hk:t.kind=1)(hi:i<t.changes.length)(h:rS t.changes[i] 8=false):jC t=false:=by
 cases hm:jC t with
 | false=>rfl
 | true=>
  rw[(sA hm).2.2.2.2.2.1 _ (zzg hi)]at h;cases h
def eW7{t:fF}{i:Nat}(hk:t.kind=1)(hi:i<t.signals.length)(h:¬t.signals[i].size<=40):jC t=false:=by
 cases hm:jC t with
 | false=>rfl
 | true=>exact absurd ((sA hm).2.2.2.2.2.2 _ (zzg hi)) h
def e_a{t:fF}(hl:1<=t.aw/\t.aw<=1099511627776)(hk:t.kind=1)(h:t.mark=0/\t.changes.length<=16/\t.signals.length<=2)(h1:∀j (hj:j<t.changes.length),rS t.changes[j] 8=true)(h2:∀j (hj:j<t.signals.length),t.signals[j].size<=40):jC t=true:=by
 refine Bd.2 ⟨hl,.inl ⟨hk,h.1,h.2.1,h.2.2,λc hc=>?_,λs hs=>?_⟩⟩
 ·obtain⟨j,hj,rfl⟩:=yyi hc;exact h1 j hj
 obtain⟨j,hj,rfl⟩:=yyi hs;exact h2 j hj
def eW8{t:fF}(hl:1<=t.aw/\t.aw<=1099511627776)(hk:t.kind=2\/t.kind=3):jC t=decide (1<=t.mark/\t.mark<=1099511627776/\t.changes.length=0/\t.signals.length=0):=by
 rw[uuv,Bd,zzx];simp only[xx9];constructor
 ·rintro ⟨_,h|h⟩
  ·omega
  exact h.2
 exact λh=>⟨hl,.inr ⟨hk,h⟩⟩
def eW9{t:fF}(h:¬(1<=t.kind/\t.kind<=3)):jC t=false:=by
 cases hm:jC t with
 | false=>rfl
 | true=>exact absurd (sA hm).2.1 h
abbrev xJ(b:Nat)(x:s9)(t:fF):Η:=.pt b [.int .i64 t.aw,.int .i64 t.kind,x.cv,x.sv,.int .i64 t.mark] 101
def qC(H:bw)(x:s9)(t:fF)(hx:rH H x t)(hl:1<=t.aw/\t.aw<=1099511627776)(hk:t.kind=1):SP 160 [agg (kJ x)] [.mem H] (e_ (.bool (jC t)) [.mem H]):=by
 refine Enzz λW F w hS=>?_;apply gIw;delta Ou aI a_ gi cW ai gI;refine zw hS λxb w hS=>?_;unfold kJ at hS;rw[hx.aw,hx.kind,hx.mark]at hS
 have hF:∀{w:Α},jC t=false->SL W (xJ xb x t::.mem H::F) w->∃post,e_ (.bool (jC t)) [.mem H] (.bool false) post/\SL W (app post F) w:=λh hS=>⟨_,⟨by rw[h],rfl⟩,aW hS⟩;refine Gp ?_;refine za (λh=>hF (L4 hk (by omega)) hS) (λh1=>?_);refine Gp ?_;refine zo hx.cv ?_;refine Gp ?_;refine za (λh=>hF (L4 hk (by omega)) hS) (λh2=>?_);refine Gp ?_;refine zo hx.sv ?_;refine Gp ?_;refine za (λh=>hF (L4 hk (by omega)) hS) (λh3=>?_);refine Gp ?_;refine zo hx.cv ?_;refine⟨λvs w=>∃i:Nat,vs=[.int .i64 i]/\i<=t.changes.length/\(∀j (hj:j<t.changes.length),j<i->rS t.changes[j] 8=true)/\SL W (xJ xb x t::.mem H::F) w,
  λvs _=>match vs with|[.int _ i]=>(t.changes.length-i).toNat|_=>0,⟨0,rfl,by omega,λj hj h=>by omega,hS⟩,?_⟩
 clear hS;rintro v3 w ⟨i,jR,hi,jJ,hS⟩;cases jR;refine cF (λh=>?_) (λh=>?_)
 ·have d_:i<t.changes.length:=by omega
  refine zE hS Xh wW hx.cv (x:=t.changes[i]) (by simp[d_]) d_ ?_;refine Gm λb w hS=>?_;refine Cg (qB t.changes[i] 8) λw hS=>?_;refine zu (λh=>hF (eW6 hk d_ h) (aW hS)) (λh=>?_);refine Gp ?_;refine⟨⟨i+1,rfl,by omega,λj hj m_=>?_,aW hS⟩,by dsimp only;omega⟩;by_cases e:j=i
  ·subst e;exact h
  exact jJ j hj (by omega)
 have nX:i=t.changes.length:=by omega
 have iY:∀j (hj:j<t.changes.length),rS t.changes[j] 8=true:=λj hj=>jJ j hj (by omega);clear jJ;refine Gp ?_;refine zo hx.sv ?_;refine⟨λvs w=>∃i:Nat,vs=[.int .i64 i]/\i<=t.signals.length/\(∀j (hj:j<t.signals.length),j<i->t.signals[j].size<=40)/\SL W (xJ xb x t::.mem H::F) w,
  λvs _=>match vs with|[.int _ i]=>(t.signals.length-i).toNat|_=>0,⟨0,rfl,by omega,λj hj h=>by omega,aW hS⟩,?_⟩
 clear hS;rintro v5 w ⟨i,jR,hi,jJ,hS⟩;cases jR;refine cF (λh=>?_) (λh=>?_)
 ·have d_:i<t.signals.length:=by omega
  refine yU hS Xh hx.sv d_ (u:=.string t.signals[i]) (by simp[d_]) ?_;refine Gp ?_;refine za (λh=>hF (eW7 hk d_ (by omega)) (aW hS)) (λh=>?_);refine Gp ?_;refine⟨⟨i+1,rfl,by omega,λj hj m_=>?_,aW hS⟩,by dsimp only;omega⟩;by_cases e:j=i
  ·subst e;omega
  exact jJ j hj (by omega)
 rw[e_a hl hk (by omega) iY λj hj=>jJ j hj (by omega)];(exact dW hS)
def yl(H:bw)(x:s9)(t:fF)(hx:rH H x t):SP 108 [agg (kJ x)] [.mem H] (e_ (.bool (jC t)) [.mem H]):=by
 refine Enzz λW F w hS=>?_;apply gFm;delta NI aI a_ cW ai;refine zw hS λxb w hS=>?_;unfold kJ at hS;rw[hx.aw,hx.kind,hx.mark]at hS
 have hF:∀{w:Α},jC t=false->SL W (xJ xb x t::.mem H::F) w->∃post,e_ (.bool (jC t)) [.mem H] (.bool false) post/\SL W (app post F) w:=λh hS=>⟨_,⟨by rw[h],rfl⟩,aW hS⟩;refine Gp ?_;refine za (λh=>hF (Xj (by omega)) hS) (λh1=>?_);refine Gp ?_;refine za (λh=>hF (Xj (by omega)) hS) (λh2=>?_);refine cF (λhk=>?_) (λhk=>?_)
 ·refine Gp ?_;have sx:rH H ⟨t.aw,t.kind,x.cv,x.sv,t.mark⟩ t:=⟨rfl,rfl,rfl,hx.cv,hx.sv⟩;refine Cg (qC H ⟨t.aw,t.kind,x.cv,x.sv,t.mark⟩ t sx (by omega) hk) λw hS=>?_;(exact dW hS)
 refine⟨λvs w=>vs=[.bool (decide (t.kind=2\/t.kind=3))]/\SL W (xJ xb x t::.mem H::F) w,?_,?_⟩
 ·refine Gp ?_;refine za (λh=>⟨by rw[zzm (Or.inl h)],hS⟩) (λh=>?_);refine Gp ?_;exact⟨by rw[show decide (t.kind=3)=decide (t.kind=2\/t.kind=3) from yyg.2 ⟨Or.inr,λh'=>by omega⟩],hS⟩
 clear hS;rintro v17 w ⟨hv,hS⟩;cases hv;refine za (λkU=>?_) (λkU=>hF (eW9 (by omega)) hS);have hM:=eW8 (t:=t) (by omega) kU;have xZ:∀{w:Α},¬(1<=t.mark/\t.mark<=1099511627776/\t.changes.length=0/\t.signals.length=0)->SL W (xJ xb x t::.mem H::F) w->∃post,e_ (.bool (jC t)) [.mem H] (.bool false) post/\SL W (app post F) w:=λh hS=>hF (by rw[hM,zzz h]) hS;refine Gp ?_;refine za (λh3=>?_) (λh3=>xZ (by omega) hS);refine Gp ?_;refine za (λh4=>?_) (λh4=>xZ (by omega) hS);refine Gp ?_;refine zo hx.cv ?_;refine Gp ?_;refine za (λh5=>?_) (λh5=>xZ (by omega) hS);refine Gp ?_;refine zo hx.sv ?_;refine Gp ?_;rw[hM,show decide (1<=t.mark/\t.mark<=1099511627776/\t.changes.length=0/\t.signals.length=0)=decide ((t.signals.length:Int)=0) from yyg.2 ⟨λh=>by omega,λh=>by omega⟩];(exact dW hS)
section
variable (b:Nat) (x1 x2 x3:Int) (t:Ε)
def eFr:SP 215 [.slice (some ⟨b,0,none⟩) 3 3] [.pt b [.int .i64 x1,.int .i64 x2,.int .i64 x3] t] (λu post=>post=[oK u [iF x1,iF x2,iF x3]]):=yG b [x1,x2,x3] t (by simp)
end
def EB(H:bw)(t:fF)(u:Ω)(post:Ψ):Prop:=match AP t with
 | .error e=>u= .tuple #[.slice none 0 0,.int .i64 e]/\post=[.mem H]
 | .ok b=>∃v,u= .tuple #[v,.int .i64 0]/\post=[.ob (bR v 5 1 b.length (b.map ic)),.mem H]
def uE(t:fF)(i:Nat):List iL:=[iF t.aw,iF t.kind,iF t.mark,iF t.changes.length]++((t.changes.take i).map uG).flatten
def v_(t:fF)(i:Nat):List iL:=uE t t.changes.length++[iF t.signals.length]++(t.signals.take i).map tF
def cFm{t:fF}{i:Nat}(h:i<t.changes.length):uE t (i+1)=uE t i++uG t.changes[i]:=by
 unfold uE;rw[zze h,zzt,yys,xx4,wwv,zzk]
def cFp{t:fF}{i:Nat}(h:i<t.signals.length):v_ t (i+1)=v_ t i++[tF t.signals[i]]:=by
 unfold v_;rw[zze h,zzt,xx4,<- zzk]
def cFn(t:fF):v_ t t.signals.length=py t:=by
 unfold v_ uE py;simp
def UA(t:fF)(i:Nat):(uE t i).length<=4+4*i:=by
 unfold uE;rw[zza,Fg (n:=4) (λ_=>rfl),zzf];simp;omega
def cFo(t:fF)(i:Nat):(v_ t i).length<=5+4*t.changes.length+i:=by
 have:=UA t t.changes.length;unfold v_;rw[zza,zza,zzs,zzf];simp;omega
def Z6(H:bw)(x:s9)(t:fF)(hx:rH H x t):SP 162 [agg (kJ x)] [.mem H] (EB H t):=by
 refine Enzz λW F w hS=>?_;apply gIy;delta Ow aI a_ aR gi ai gI bI;refine zw hS λxb w hS=>?_;refine Gp ?_;refine Cg (yl H x t hx) λw hS=>?_;refine zu (λh=>?_) (λhm=>?_)
 ·exact⟨[.mem H],by unfold EB AP;rw[zzb (by rw[h];decide)];exact⟨rfl,rfl⟩,aW hS⟩
 have hb:=sA hm;unfold kJ at hS;rw[hx.aw,hx.kind,hx.mark]at hS
 refine Gp ?_;refine zo hx.cv ?_;refine Gm λb w hS=>?_;refine Cc (WK b t.aw t.kind t.mark t.changes.length 2) ?_;clear hS;rintro u post rfl w hS;(try simp only[app]at hS);refine Gp ?_
 refine zo hx.cv ?_;have hS:SL W (oK u (uE t 0)::_) _:=hS;refine⟨λvs w=>∃(i:Nat) (u:Ω),vs=[u,.int .i64 i]/\i<=t.changes.length/\SL W (oK u (uE t i)::xJ xb x t::.mem H::F) w,
  λvs _=>match vs with|[_,.int _ i]=>(t.changes.length-i).toNat|_=>0,⟨0,_,rfl,by omega,aW hS⟩,?_⟩
 clear hS;rintro u v3 w ⟨i,_,jR,hi,hS⟩;cases jR;have wa:=UA t i;refine cF (λh=>?_) (λh=>?_)
 ·have d_:i<t.changes.length:=by omega
  have hs:=cFm d_;refine zE hS Xh wW hx.cv (x:=t.changes[i]) (by simp[d_]) d_ ?_;generalize t.changes[i]=o at *
  obtain⟨ot,ok,og,ov⟩:=o;refine Gm λb w hS=>?_;unfold kQ at hS;refine Cg (Zx og) λw hS=>?_;refine Gm λb w hS=>?_;refine Cc (eFr b ot ok (l4 og) 2) ?_;clear hS;rintro u2 post rfl w hS;try simp only[app]at hS
  refine ya (L:=uE t i) hS Xr (sC hS Xh) (by simp;omega) λu3 w hS=>?_;refine Gp ?_;refine Cg (yN ov) λw hS=>?_;refine Gm λb w hS=>?_;refine ya (M:=[tF ov]) hS Xr (I_ hS Xh) (by simp;omega) λu4 w hS=>?_;refine Gp ?_;refine⟨⟨i+1,_,rfl,by omega,?_⟩,by dsimp only;omega⟩;rw[hs];simp only[zzk]at hS;have hS:SL W (oK _ (uE t i++uG ⟨ot,ok,og,ov⟩)::_) _:=hS;exact aW hS
 have nX:i=t.changes.length:=by omega
 subst nX;refine Gp ?_;refine zo hx.sv ?_;refine Gm λb w hS=>?_;refine Cc (It b t.signals.length 2) ?_;clear hS;rintro u2 post rfl w hS;try simp only[app]at hS
 refine ya (L:=uE t t.changes.length) hS Xr (sC hS Xh) (by simp;omega) λu3 w hS=>?_;refine Gp ?_;refine zo hx.sv ?_;refine⟨λvs w=>∃(i:Nat) (u:Ω),vs=[u,.int .i64 i]/\i<=t.signals.length/\SL W (oK u (v_ t i)::xJ xb x t::.mem H::F) w,
  λvs _=>match vs with|[_,.int _ i]=>(t.signals.length-i).toNat|_=>0,⟨0,u3,rfl,by omega,?_⟩,?_⟩
 ·rw[show v_ t 0=uE t t.changes.length++[iF t.signals.length] by unfold v_;simp];exact aW hS
 clear hS;rintro u v3 w ⟨i,_,jR,hi,hS⟩;cases jR;have Hy:=cFo t i;refine cF (λh=>?_) (λh=>?_)
 ·have d_:i<t.signals.length:=by omega
  have hs:=cFp d_;refine yU hS Xh hx.sv d_ (u:=.string t.signals[i]) (by simp[d_]) ?_;refine Cg (yN t.signals[i]) λw hS=>?_;refine Gm λb w hS=>?_;refine ya (L:=v_ t i) (M:=[tF t.signals[i]]) hS Xr (I_ hS Xh) (by simp;omega) λu3 w hS=>?_;refine Gp ?_;refine⟨⟨i+1,_,rfl,by omega,?_⟩,by dsimp only;omega⟩;rw[hs];exact aW hS
 have nX:i=t.signals.length:=by omega
 subst nX;rw[cFn]at hS Hy
 refine Cc (yB (oK u (py t)) u (py t) vO.own (by omega)) ?_;clear hS;rintro r post hq w hS;try simp only[app]at hS
 unfold vK at hq;unfold EB AP;rw[zzc hm];cases he:tj (py t) with
 | error e=>
  rw[he]at hq
  obtain⟨rfl,rfl⟩:=hq;(try simp only[app]at hS);refine Gp ?_
  exact dW hS
 | ok bs=>
  rw[he]at hq
  obtain⟨v,rfl,rfl⟩:=hq;(try simp only[app]at hS);refine Gp ?_
  exact⟨_,⟨v,rfl,rfl⟩,aW hS⟩
structure uo{α:Type}(one:ig->α × ig)(n:Nat)(r0:ig)(xs:List α)(k:Nat)(r:ig):Prop where
 eq:pg one n r0=(xs++(pg one k r).1,(pg one k r).2)
 le:xs.length+k<=n
def uo.start{α:Type}(one:ig->α × ig)(n:Nat)(r:ig):uo one n r [] n r:=⟨rfl,by simp⟩
def uo.step{α:Type}{one:ig->α × ig}{n:Nat}{r0:ig}{xs:List α}{k:Nat}{r:ig}(h:uo one n r0 xs (k+1) r):uo one n r0 (xs++[(one r).1]) k (one r).2:=
 ⟨by rw[h.eq];simp[pg],by have:=h.le;rw[zza,zz6];omega⟩
def uo.stop{α:Type}{one:ig->α × ig}{n:Nat}{r0:ig}{xs:List α}{r:ig}(h:uo one n r0 xs 0 r):pg one n r0=(xs,r):=by
 rw[h.eq];simp[pg]
def YV(rp:Nat)(r:ig):SP 157 [.pointer (some ⟨rp,0,none⟩)] [.ob (j9 rp r)] (e_ (agg (kQ (vi r).1)) [.ob (j9 rp (vi r).2)]):=by
 refine Enzz λW F w hS=>?_;apply gIs;delta On ai gI;refine Gm λb w hS=>?_;refine Cg (zy rp r 8) λw hS=>?_;refine Cg (zP rp _) λw hS=>?_;refine Cg (y9 rp _) λw hS=>?_;refine Cg (yC rp _) λw hS=>?_;simp only[vi];exact dW hS
def Dn{aw kind mark:Int}{cv sv:Ω}(h1:cv.oneCell'=true)(h2:sv.oneCell'=true):∀v∈kJ ⟨aw,kind,cv,sv,mark⟩,v.oneCell'=true:=by
 intro v hv;simp only[kJ,zz7,xxj,vvv]at hv;rcases hv with rfl|rfl|rfl|rfl|rfl
 ·rfl
 ·rfl
 ·exact h1
 ·exact h2
 rfl
def GK:s9:=⟨0,0,.slice none 0 0,.slice none 0 0,0⟩
abbrev JM(b:Nat):Η:=.pt b [.int .i64 0,.int .i64 0,.slice none 0 0,.slice none 0 0,.int .i64 0] 101
def Br(X:Η)(H:bw)(b:Δ)(u:Ω)(post:Ψ):Prop:=match pN b with
 | .error e=>e≠0/\∃H',H.le H'/\u= .tuple #[agg (kJ GK),.int .i64 e]/\post=[X,.mem H']
 | .ok t=>∃x H',H.le H'/\u= .tuple #[agg (kJ x),.int .i64 0]/\rH H' x t/\post=[X,.mem H']
def bRk{b:Δ}{e:Int}(h:nL b= .error e):pN b= .error e:=by unfold pN;rw[h]
def bRn{b:Δ}{l:List iL}(h:nL b= .ok l)(h2:¬((pK ⟨l,false⟩).2.bad=false/\(pK ⟨l,false⟩).2.l=[]/\jC (pK ⟨l,false⟩).1=true)):pN b= .error 3:=by
 unfold pN Dh;rw[h];simp only;rw[zzb h2]
def bRl{b:Δ}{l:List iL}(h:nL b= .ok l)(h2:(pK ⟨l,false⟩).2.bad=false/\(pK ⟨l,false⟩).2.l=[]/\jC (pK ⟨l,false⟩).1=true):pN b= .ok (pK ⟨l,false⟩).1:=by
 unfold pN Dh;rw[h];simp only;rw[zzc h2]
abbrev GM(v:Ω)(l:List jB):Η:=.ob (bR v 56 4 l.length (l.map kQ).flatten)
abbrev GW(v:Ω)(l:Θ):Η:=.ob (bR v 9 1 l.length (l.map λs=>[Value.string s]).flatten)
def gip(l:Θ):(l.map λs=>[Value.string s]).flatten=l.map Value.string:=by
 induction l with
 | nil=>rfl
 | cons a l ih=>simp[ih]
structure Jw(l:List iL)(aw kind mark:Int)(r3:ig):Prop where
 aw:(pK ⟨l,false⟩).1.aw=aw
 kind:(pK ⟨l,false⟩).1.kind=kind
 mark:(pK ⟨l,false⟩).1.mark=mark
 ch:(pK ⟨l,false⟩).1.changes=(pg vi (iJ 16 r3).1.toNat (iJ 16 r3).2).1
 sg:∀r4,(pg vi (iJ 16 r3).1.toNat (iJ 16 r3).2).2=r4->(pK ⟨l,false⟩).1.signals=(pg ui (iJ 2 r4).1.toNat (iJ 2 r4).2).1/\(pK ⟨l,false⟩).2=(pg ui (iJ 2 r4).1.toNat (iJ 2 r4).2).2
def Jw.is(l:List iL):Jw l (kr ⟨l,false⟩).1 (iJ 3 (kr ⟨l,false⟩).2).1 (kr (iJ 3 (kr ⟨l,false⟩).2).2).1 (kr (iJ 3 (kr ⟨l,false⟩).2).2).2:=⟨rfl,rfl,rfl,rfl,λr4 h=>by subst h;exact⟨rfl,rfl⟩⟩
def Z5(X:Η)(H:bw)(v:Ω)(bs:Δ)(hv:iV X v bs):SP 105 [v] [X,.mem H] (Br X H bs):=by
 refine Enzz λW F w hS=>?_;apply gFj;delta NF aI aR gi ai gI bI;refine Gb λzb w hS=>?_;refine Cc (yA X v bs hv) ?_;clear hS;rintro r post hq w hS;unfold Bq at hq;cases hd:nL bs with
 | error e=>
  rw[hd]at hq
  obtain⟨rfl,rfl⟩:=hq;have he:=J_ hd;(try simp only[app]at hS);refine Gp ?_
  refine za (λ_=>?_) (λh=>absurd he h);refine Gn λw hS=>?_;exact⟨[X,.mem H],by unfold Br;rw[bRk hd];exact⟨he,H,bw.le_refl H,rfl,rfl⟩,aW hS⟩
 | ok l=>
  rw[hd]at hq
  obtain⟨lv,rfl,rfl⟩:=hq;(try simp only[app]at hS);refine Gp ?_
  refine za (λh=>absurd rfl h) (λ_=>?_);refine Cc (Za lv l) ?_;clear hS;rintro _ post ⟨rp,rfl,rfl⟩ w hS;try simp only[app]at hS
  refine Cc (zP rp ⟨l,false⟩) ?_;clear hS;rintro v1 post ⟨rfl,rfl⟩ w hS;try simp only[app]at hS
  refine Cc (zy rp _ 3) ?_;clear hS;rintro v1 post ⟨rfl,rfl⟩ w hS;try simp only[app]at hS
  refine Cc (zP rp _) ?_;clear hS;rintro v1 post ⟨rfl,rfl⟩ w hS;try simp only[app]at hS
  have hI:=Jw.is l;generalize (kr (iJ 3 (kr ⟨l,false⟩).2).2).1=mark at *
  generalize (kr (iJ 3 (kr ⟨l,false⟩).2).2).2=r3 at *
  generalize (iJ 3 (kr ⟨l,false⟩).2).1=kind at *
  generalize (kr ⟨l,false⟩).1=aw at *
  have su:=Ej (m:=16) (by decide) r3;refine Gp ?_;refine Gb λxb w hS=>?_;have hS:SL W (GM (.slice none 0 0) []::_) _:=bR.nil hS;have hS:SL W (GW (.slice none 0 0) []::_) _:=bR.nil hS;refine Cc (zy rp r3 16) ?_;clear hS;rintro v1 post ⟨rfl,rfl⟩ w hS;try simp only[app]at hS
  have ri:=hI.ch;have Lu:=hI.sg;generalize (iJ 16 r3).1=n1 at *
  generalize (iJ 16 r3).2=r2 at *
  refine⟨λus w=>∃(k:Nat) (nK:List jB) (r:ig) (cv:Ω),us=[.int .i64 k]/\uo vi n1.toNat r2 nK k r/\SL W (GM cv nK::.ob (j9 rp r)::GW (.slice none 0 0) []::.pt xb [.int .i64 aw,.int .i64 kind,cv,.slice none 0 0,.int .i64 mark] 101::JM zb::X::.mem H::F) w,
   λus _=>match us with|[.int _ i]=>i.toNat|_=>0,⟨n1.toNat,[],r2,.slice none 0 0,by rw[show ((n1.toNat:Nat):Int)=n1 by omega],uo.start _ _ _,aW hS⟩,?_⟩
  clear hS;rintro v8 w ⟨k,nK,r,cv,gW,hM,hS⟩;cases gW;have hle:=hM.le;refine cF (λh=>?_) (λh=>?_)
  ·obtain⟨k,rfl⟩:∃j,k=j+1:=⟨k-1,by omega⟩;have hM:=hM.step;refine Gn λw hS=>?_;refine Cg (YV rp r) λw hS=>?_;refine Gm λb w hS=>?_;refine yu (n:=nK.length) (xs:=nK) (y:=(vi r).1) (enc:=kQ) hS Xr Xh wW (λx=>Us x) rfl (by omega) (by omega) λu w hS=>?_;have h1:=bR.one hS;refine Gn λw hS=>?_;refine⟨⟨k,_,_,u,by rw[show ((k+1:Nat):Int)-1=(k:Int) by omega],hM,?_⟩,by dsimp only;omega⟩;have hS:=hS.u7 (x:=(vi r).1);exact aW hS
  obtain rfl:k=0:=by omega
  rw[hM.stop]at ri Lu
  obtain⟨Ih,iP⟩:=Lu r rfl;have Cq:=Ej (m:=2) (by decide) r;refine Cc (zy rp r 2) ?_;clear hS;rintro v1 post ⟨rfl,rfl⟩ w hS;try simp only[app]at hS
  generalize (iJ 2 r).1=n2 at *
  generalize (iJ 2 r).2=r5 at *
  refine⟨λus w=>∃(k:Nat) (Ei:Θ) (r:ig) (sv:Ω),us=[.int .i64 k]/\uo ui n2.toNat r5 Ei k r/\SL W (GW sv Ei::.ob (j9 rp r)::GM cv nK::.pt xb [.int .i64 aw,.int .i64 kind,cv,sv,.int .i64 mark] 101::JM zb::X::.mem H::F) w,
   λus _=>match us with|[.int _ i]=>i.toNat|_=>0,⟨n2.toNat,[],r5,.slice none 0 0,by rw[show ((n2.toNat:Nat):Int)=n2 by omega],uo.start _ _ _,aW hS⟩,?_⟩
  clear hS;rintro v8 w ⟨k,Ei,r,sv,gW,x8,hS⟩;cases gW;have hle:=x8.le;refine cF (λh=>?_) (λh=>?_)
  ·obtain⟨k,rfl⟩:∃j,k=j+1:=⟨k-1,by omega⟩;have x8:=x8.step;refine Gn λw hS=>?_;refine Cg (yC rp r) λw hS=>?_;refine Gm λb w hS=>?_;refine yu (n:=Ei.length) (xs:=Ei) (y:=(ui r).1) (enc:=λs=>[Value.string s]) hS Xr Xh (λ_=>rfl) (by simp[Value.oneCell']) rfl (by omega) (by omega) λu w hS=>?_;have h1:=bR.one hS;refine Gn λw hS=>?_;refine⟨⟨k,_,_,u,by rw[show ((k+1:Nat):Int)-1=(k:Int) by omega],x8,?_⟩,by dsimp only;omega⟩;have hS:=hS.u7 (x:=(ui r).1);exact aW hS
  obtain rfl:k=0:=by omega
  rw[x8.stop]at Ih iP
  have oT:=hI.aw;have dIy:=hI.kind;have dI6:=hI.mark;have ri:(pK ⟨l,false⟩).1.changes=nK:=ri;have Ih:(pK ⟨l,false⟩).1.signals=Ei:=Ih;have iP:(pK ⟨l,false⟩).2=r:=iP;generalize ht:(pK ⟨l,false⟩).1=t at *
  generalize hr:(pK ⟨l,false⟩).2=r' at *
  subst iP ri Ih;obtain⟨H1,iA,hO,hS⟩:=bR.freeze (SL.cR hS (t:=.mem H::GM cv t.changes::GW sv t.signals::.ob (j9 rp r')::.pt xb [.int .i64 aw,.int .i64 kind,cv,sv,.int .i64 mark] 101::JM zb::X::F) Xi);obtain⟨H2,iW,hN,hS⟩:=bR.freeze hS;rw[gip]at hN
  have hx:rH H2 ⟨aw,kind,cv,sv,mark⟩ t:=⟨oT.symm,dIy.symm,dI6.symm,hO.mono iW,hN⟩;have kG:=bw.le_trans iA iW;have lP:=hO.one;have oz:=hN.one;refine Cg (y6 rp r') λw hS=>?_;have ko:¬(r'.bad=false/\r'.l=[]/\jC t=true)->∀{w:Α},SL W (X::.mem H2::F) w->∃post,Br X H bs (.tuple #[agg (kJ GK),.int .i64 3]) post/\SL W (app post F) w:=λh w hS=>⟨[X,.mem H2],by unfold Br;rw[bRn hd (by rw[ht,hr];exact h)];exact⟨by decide,H2,kG,rfl,rfl⟩,hS⟩;refine zu (λhb=>?_) (λhb=>?_)
  ·have hb:=yyz hb;refine Gn λw hS=>?_;exact ko (λh=>hb ⟨h.1,h.2.1⟩) (aW hS)
  have hb:=zzl hb;refine Gp ?_;refine Cg (yl H2 ⟨aw,kind,cv,sv,mark⟩ t hx) λw hS=>?_;refine zu (λhm=>?_) (λhm=>?_)
  ·refine Gn λw hS=>?_;exact ko (λh=>by rw[h.2.2]at hm;cases hm) (aW hS)
  refine Gp ?_;refine zr (vs:=kJ ⟨aw,kind,cv,sv,mark⟩) hS Xu rfl rfl (Dn lP oz) λw hS=>?_;refine Gp ?_;exact⟨[X,.mem H2],by unfold Br;rw[bRl hd (by rw[ht,hr];exact⟨hb.1,hb.2,hm⟩),ht];exact⟨⟨aw,kind,cv,sv,mark⟩,H2,kG,rfl,hx,rfl⟩,aW hS⟩
def Yp(H:bw)(v:Ω)(C:List Row)(hC:iD H 2 v C.length (C.map jA).flatten)(hn:C.length<=140737488351232):SP 356 [v] [.mem H] (e_ (.bool (vx C)) [.mem H]):=by
 refine Enzz λW F w hS=>?_;apply iad;delta R6 aI a_ cW ai gI;refine zo hC ?_;refine⟨λus w=>∃(i:Nat) (k:Int),us=[.int .i64 k,.int .i64 i]/\i<=C.length/\Bk 0 C=Bk k (C.drop i)/\SL W (.mem H::F) w,λus _=>match us with|[_,.int _ i]=>(C.length-i).toNat|_=>0,⟨0,0,rfl,by omega,rfl,hS⟩,?_⟩;clear hS;rintro v3 v8 w ⟨i,k,gW,hi,hr,hS⟩;cases gW;refine cF (λh=>?_) (λh=>?_)
 ·have d_:i<C.length:=by omega
  rw[yyq d_,Bk]at hr
  refine zE hS Xh nj hC (x:=C[i]) (by simp[d_]) d_ ?_;generalize C[i]=r at *
  obtain⟨rk,rv⟩:=r;have hF:∀{w:Α} {b:Nat},¬(k<rk/\rk<=1099511627776/\rv.size<=32)->SL W (.pt b [.int .i64 rk,.string rv] 66::.mem H::F) w->∃post,e_ (.bool (vx C)) [.mem H] (.bool false) post/\SL W (app post F) w:=λko hS=>
   ⟨_,⟨by unfold vx;rw[hr,zzz ko];rfl,rfl⟩,aW hS⟩
  rw[Hh];refine Gm λb w hS=>?_;refine za (λh1=>hF (by omega) hS) (λh1=>?_);refine Gp ?_;refine za (λh2=>hF (by omega) hS) (λh2=>?_);refine Gp ?_;refine za (λh3=>hF (by omega) hS) (λh3=>?_);refine Gp ?_;refine⟨⟨i+1,rk,rfl,by omega,?_,aW hS⟩,by dsimp only;omega⟩;rw[hr,zzm (show k<rk/\rk<=1099511627776/\rv.size<=32 by omega)];rfl
 have nX:i=C.length:=by omega
 subst nX;rw[vv0]at hr
 refine zo hC ?_;refine Gp ?_;have e:vx C=decide ((C.length:Int)<=1000):=by
  unfold vx;rw[hr];show (true && _)=_;rw[vv6,yyg];omega
 rw[e];(exact dW hS)
def AF(H:bw)(v:Ω)(ts:List (List Row)):Prop:=∃vs,iD H 1 v ts.length vs/\sL H vs ts
def yP{H:bw}{v:Ω}{ts:List (List Row)}{K:Ω->Prop}(h:AF H v ts)(k:K (.int .i64 ts.length)):zd v K:=by
 obtain⟨vs,h1,_⟩:=h;exact zo h1 k
def YX{W w:Α}{l:Ψ}{H:bw}{v:Ω}{ts:List (List Row)}{j:Nat}{k:IntKind}{K:Ω->Prop}(hS:SL W l w)(hm:Has (.mem H) l)(h:AF H v ts)(hj:j<ts.length)
  (hK:∀u,iD H 2 u ts[j].length (ts[j].map jA).flatten->K u):zl 1 v (.int k (j:Int)) λp=>cI p w K:=by
 obtain⟨vs,h1,h2⟩:=h;have hl:=h2.1;have hu:vs[j]?=some (vs[j]'(by omega)):=zzd (by omega);exact yU hS hm h1 hj hu (hK _ (h2.2 j _ _ hu (zzd hj)))
def Zl(H:bw)(v:Ω)(aw:Int)(ts:List (List Row))(hv:AF H v ts)(hn:ts.length<=140737488351232)(hc:∀C∈ts,C.length<=140737488351232):SP 309 [.int .i64 aw,v] [.mem H] (e_ (.bool (nf aw ts)) [.mem H]):=by
 refine Enzz λW F w hS=>?_;apply h_i;delta RA aI gi cW ai;have hF:∀{w:Α},¬(0<=aw/\aw<=1099511627776/\1<=ts.length/\ts.length<=8)->SL W (.mem H::F) w->∃post,e_ (.bool (nf aw ts)) [.mem H] (.bool false) post/\SL W (app post F) w:=λko hS=>⟨_,⟨by unfold nf;rw[zzz ko];rfl,rfl⟩,hS⟩;refine Gp ?_;refine za (λh=>hF (by omega) hS) (λh1=>?_);refine Gp ?_;refine za (λh=>hF (by omega) hS) (λh2=>?_);refine yP hv ?_;refine Gp ?_;refine za (λh=>hF (by omega) hS) (λh3=>?_);refine yP hv ?_;refine Gp ?_;refine za (λh=>hF (by omega) hS) (λh4=>?_);refine yP hv ?_;have hM:nf aw ts=ts.all vx:=by unfold nf;rw[zzm (show 0<=aw/\aw<=1099511627776/\1<=ts.length/\ts.length<=8 by omega)];rfl
 refine⟨λus w=>∃i:Nat,us=[.int .i64 i]/\i<=ts.length/\(∀j (h:j<ts.length),j<i->vx ts[j]=true)/\SL W (.mem H::F) w,λus _=>match us with|[.int _ i]=>(ts.length-i).toNat|_=>0,⟨0,rfl,by omega,λj h hj=>by omega,hS⟩,?_⟩;clear hS;rintro v25 w ⟨i,gW,hi,jJ,hS⟩;cases gW;refine cF (λh=>?_) (λh=>?_)
 ·have d_:i<ts.length:=by omega
  refine YX hS Xh hv d_ λu hu=>?_;refine Cg (Yp H u ts[i] hu (hc _ (zzg d_))) λw hS=>?_;refine zu (λhb=>?_) (λhb=>?_)
  ·refine⟨_,⟨?_,rfl⟩,hS⟩;rw[hM,show ts.all vx=false from tta.2 ⟨_,zzg d_,by rw[hb];decide⟩]
  refine Gp ?_;refine⟨⟨i+1,rfl,by omega,λj hj m_=>?_,hS⟩,by dsimp only;omega⟩;by_cases e:j=i
  ·subst e;exact hb
  exact jJ j hj (by omega)
 refine⟨_,⟨?_,rfl⟩,hS⟩;rw[hM,show ts.all vx=true from zz5.2 λC hC=>by
  obtain⟨j,hj,rfl⟩:=yyi hC;exact jJ j hj (by omega)]
def vZ(aw:Int)(ts:List (List Row))(i:Nat):List iL:=[iF aw,iF ts.length]++((ts.take i).map tn).flatten
def wY(aw:Int)(ts:List (List Row))(i:Nat)(C:List Row)(j:Nat):List iL:=vZ aw ts i++(iF C.length::((C.take j).map wZ).flatten)
def cw9{aw:Int}{ts:List (List Row)}{i:Nat}(h:i<ts.length):vZ aw ts (i+1)=wY aw ts i ts[i] ts[i].length:=by
 unfold vZ wY vZ tn;rw[zze h,zzt,yys,xx4,wwv,zz1,zzk]
def cFb{aw:Int}{ts:List (List Row)}{i:Nat}{C:List Row}{j:Nat}(h:j<C.length):wY aw ts i C (j+1)=wY aw ts i C j++[iF C[j].key]++[tF C[j].val]:=by
 unfold wY;rw[zze h,zzt,yys,xx4,wwv];simp[wZ]
def cw8(aw:Int)(ts:List (List Row)):vZ aw ts ts.length=se aw ts:=by unfold vZ se;rw[zz1]
def Uz{aw:Int}{ts:List (List Row)}(h:∀C∈ts,C.length<=1000)(i:Nat):(vZ aw ts i).length<=2+ts.length*2001:=by
 have k:=xU (f:=tn) (k:=2001) (ts.take i) λC hC=>by rw[UD];have:=h C (yyn hC);omega
 have:(ts.take i).length*2001<=ts.length*2001:=yyt _ (by rw[zzf];omega);unfold vZ;rw[zza];simp only[zzj,yyo];omega
def cFa{aw:Int}{ts:List (List Row)}(h:∀C∈ts,C.length<=1000)(i:Nat){C:List Row}(hC:C.length<=1000)(j:Nat):(wY aw ts i C j).length<=2003+ts.length*2001:=by
 have h1:=Uz (aw:=aw) h i;unfold wY;rw[zza,zzj,Ds (f:=wZ) (k:=2) (λ_=>rfl),zzf];omega
def GO(H:bw)(aw:Int)(ts:List (List Row))(u:Ω)(post:Ψ):Prop:=match Hg aw ts with
 | .error e=>u= .tuple #[.slice none 0 0,.int .i64 e]/\post=[.mem H]
 | .ok b=>∃v,u= .tuple #[v,.int .i64 0]/\post=[.ob (bR v 5 1 b.length (b.map ic)),.mem H]
def qz(H:bw)(v:Ω)(aw:Int)(ts:List (List Row))(hv:AF H v ts)(hn:ts.length<=140737488351232)(hc:∀C∈ts,C.length<=140737488351232):SP 249 [.int .i64 aw,v] [.mem H] (GO H aw ts):=by
 refine Enzz λW F w hS=>?_;apply gW7;delta PR aI a_ gi ai gI bI;refine Cg (Zl H v aw ts hv hn hc) λw hS=>?_;refine zu (λh=>?_) (λhm=>?_)
 ·exact⟨[.mem H],by unfold GO Hg;rw[zzb (by rw[h];decide)];exact⟨rfl,rfl⟩,aW hS⟩
 obtain⟨hb,hT⟩:=wC.1 hm;have x9:∀C∈ts,C.length<=1000:=λC hC=>(hT C hC).len;have h8:ts.length*2001<=8*2001:=yyt _ (by omega);refine yP hv ?_;refine Gm λb w hS=>?_;refine Cc (WJ b aw ts.length 2) ?_;clear hS;rintro u post rfl w hS;try simp only[app]at hS
 refine yP hv ?_;have hS:SL W (oK u (vZ aw ts 0)::_) _:=hS;refine⟨λus w=>∃(i:Nat) (u:Ω),us=[u,.int .i64 i]/\i<=ts.length/\SL W (oK u (vZ aw ts i)::.mem H::F) w,λus _=>match us with|[_,.int _ i]=>(ts.length-i).toNat|_=>0,⟨0,_,rfl,by omega,aW hS⟩,?_⟩;clear hS;rintro u v24 w ⟨i,_,gW,hi,hS⟩;cases gW;have wa:=Uz (aw:=aw) x9 i;refine cF (λh=>?_) (λh=>?_)
 ·have d_:i<ts.length:=by omega
  have hs:=cw9 (aw:=aw) d_;have Hz:=x9 _ (zzg d_);refine YX hS Xh hv d_ λcv wk=>?_;generalize ts[i]=C at *
  refine zo wk ?_;refine Gm λb w hS=>?_;refine Cc (It b C.length 2) ?_;clear hS;rintro u2 post rfl w hS;try simp only[app]at hS
  refine ya (L:=vZ aw ts i) hS Xr (sC hS Xh) (by simp;omega) λu3 w hS=>?_;refine zo wk ?_;have hS:SL W (oK u3 (wY aw ts i C 0)::_) _:=hS;refine⟨λus w=>∃(j:Nat) (u:Ω),us=[u,.int .i64 j]/\j<=C.length/\SL W (oK u (wY aw ts i C j)::.mem H::F) w,λus _=>match us with|[_,.int _ i]=>(C.length-i).toNat|_=>0,⟨0,_,rfl,by omega,aW hS⟩,?_⟩;clear hS;rintro u v36 w ⟨j,_,gW,hj,hS⟩;cases gW;have Hy:=cFa (aw:=aw) x9 i Hz j;refine cF (λh=>?_) (λh=>?_)
  ·have lV:j<C.length:=by omega
   have hs2:=cFb (aw:=aw) (ts:=ts) (i:=i) lV;refine zE hS Xh nj wk (x:=C[j]) (by simp[lV]) lV ?_;generalize C[j]=r at *
   obtain⟨rk,rv⟩:=r;rw[Hh];refine Gm λb w hS=>?_;refine Gm λb w hS=>?_;refine Cc (It b rk 2) ?_;clear hS;rintro u4 post rfl w hS;try simp only[app]at hS
   refine ya (L:=wY aw ts i C j) hS Xr (sC hS Xh) (by simp;omega) λu5 w hS=>?_;refine Gp ?_;refine Cg (yN rv) λw hS=>?_;refine Gm λb w hS=>?_;refine ya (M:=[tF rv]) hS Xr (I_ hS Xh) (by simp;omega) λu6 w hS=>?_;refine Gp ?_;refine⟨⟨j+1,_,rfl,by omega,?_⟩,by dsimp only;omega⟩;rw[hs2];exact aW hS
  obtain rfl:j=C.length:=by omega
  refine Gp ?_;refine⟨⟨i+1,_,rfl,by omega,?_⟩,by dsimp only;omega⟩;rw[hs];exact hS
 obtain rfl:i=ts.length:=by omega
 rw[cw8]at hS wa
 refine Cc (yB (oK u (se aw ts)) u (se aw ts) vO.own (by omega)) ?_;clear hS;rintro r post hq w hS;try simp only[app]at hS
 have he:=(Wz hm).1;have hl:=D2 hm;unfold vK at hq;rw[he]at hq
 obtain⟨bv,rfl,rfl⟩:=hq;(try simp only[app]at hS);refine Gp ?_
 refine za (λh=>absurd rfl h) (λ_=>?_);refine Cc (Z7 _ bv (nk aw ts) iV.own (by omega)) ?_;clear hS;rintro r post hq w hS;try simp only[app]at hS
 unfold wN at hq;rw[zzb (by omega)]at hq
 obtain⟨ov,rfl,rfl⟩:=hq;(try simp only[app]at hS);refine Gp ?_
 exact⟨_,by unfold GO Hg;rw[zzc hm];exact⟨ov,rfl,rfl⟩,aW hS⟩
def gi2(r:ig):vH r=mU Bl (iJ 1000 r).1.toNat (iJ 1000 r).2:=rfl
def QH(rp:Nat)(r:ig):SP 325 [.pointer (some ⟨rp,0,none⟩)] [.ob (j9 rp r)] (λv post=>(vH r).1.length<=1000/\post=[kD v (vH r).1,.ob (j9 rp (vH r).2)]):=by
 refine Enzz λW F w hS=>?_;apply h_q;delta RJ aI ai gI bI;rw[gi2];have su:=Ej (m:=1000) (by decide) r;refine Cc (zy rp r 1000) ?_;clear hS;rintro v1 post ⟨rfl,rfl⟩ w hS;try simp only[app]at hS
 generalize (iJ 1000 r).1=n1 at *
 generalize (iJ 1000 r).2=r2 at *
 have hS:SL W (kD (.slice none 0 0) []::_) _:=bR.nil hS;refine⟨λus w=>∃(k:Nat) (rs:List Row) (r:ig) (rv:Ω),us=[rv,.int .i64 k]/\ur Bl n1.toNat r2 rs k r/\SL W (kD rv rs::.ob (j9 rp r)::F) w,
  λus _=>match us with|[_,.int _ i]=>i.toNat|_=>0,⟨n1.toNat,[],r2,.slice none 0 0,by rw[show ((n1.toNat:Nat):Int)=n1 by omega],ur.start _ _ _,aW hS⟩,?_⟩
 clear hS;rintro v3 v4 w ⟨k,rs,r,rv,gW,hM,hS⟩;cases gW;have hle:=hM.le;refine cF (λh=>?_) (λh=>?_)
 ·obtain⟨k,rfl⟩:∃j,k=j+1:=⟨k-1,by omega⟩;refine Cg (y7 rp r) λw hS=>?_;refine zu (λhb=>?_) (λhb=>?_)
  ·have hM:=hM.step hb;refine Cc (zP rp r) ?_;clear hS;rintro v1 post ⟨rfl,rfl⟩ w hS;try simp only[app]at hS
   refine Cg (yC rp _) λw hS=>?_;refine Gm λb w hS=>?_;refine yu (n:=rs.length) (xs:=rs) (y:=(Bl r).1) (enc:=jA) hS Xr Xh nj (λx=>AN x) rfl (by omega) (by omega) λu w hS=>?_;refine Gp ?_;refine⟨⟨k,_,_,u,by rw[show ((k+1:Nat):Int)-1=(k:Int) by omega],hM,?_⟩,by dsimp only;omega⟩;have hS:=hS.u7 (x:=(Bl r).1);have hS:SL W (kD u (rs++[(Bl r).1])::_::.ob (j9 rp (Bl r).2)::F) _:=hS;exact aW hS
  rw[hM.stop (.inr hb)];exact⟨_,⟨by show rs.length<=1000;omega,rfl⟩,aW hS⟩
 rw[hM.stop (.inl (by omega))];exact⟨_,⟨by show rs.length<=1000;omega,rfl⟩,aW hS⟩
def sL.nil(H:bw):sL H [] []:=⟨rfl,λi v C h1 h2=>by simp at h1⟩
def sL.snoc{H:bw}{vs:Γ}{ts:List (List Row)}(h:sL H vs ts){v:Ω}{C:List Row}(hv:iD H 2 v C.length (C.map jA).flatten):sL H (vs++[v]) (ts++[C]):=by
 have hl:=h.1;refine⟨by rw[zza,zza,hl];rfl,λi u D h1 h2=>?_⟩;rcases xxv i vs.length with hi|hi
 ·rw[zzr hi]at h1
  rw[zzr (by omega)]at h2
  exact h.2 i u D h1 h2
 rw[yya hi]at h1
 rw[yya (by omega)]at h2
 obtain⟨e,rfl⟩:i-vs.length=0/\v=u:=by
  cases hk:i-vs.length with
  | zero=>rw[hk]at h1;exact⟨rfl,by simpa using h1⟩
  | succ n=>rw[hk]at h1;simp at h1
 rw[show i-ts.length=0 by omega]at h2
 obtain rfl:C=D:=by simpa using h2
 exact hv
def Ey(X:Η)(H:bw)(b:Δ)(u:Ω)(post:Ψ):Prop:=match oP b with
 | none=>u= .tuple #[.int .i64 0,.slice none 0 0,.int .i64 3]/\∃H',H.le H'/\post=[X,.mem H']
 | some x=>∃v H',H.le H'/\AF H' v x.2/\u= .tuple #[.int .i64 x.1,v,.int .i64 0]/\post=[X,.mem H']
def WA{l:List iL}(h:¬((rR ⟨l,false⟩).2.bad=false/\(rR ⟨l,false⟩).2.l=[]/\nf (rR ⟨l,false⟩).1.1 (rR ⟨l,false⟩).1.2=true)):Am l=none:=by
 unfold Am;simp only;rw[zzb h]
def eFm{l:List iL}(h:(rR ⟨l,false⟩).2.bad=false/\(rR ⟨l,false⟩).2.l=[]/\nf (rR ⟨l,false⟩).1.1 (rR ⟨l,false⟩).1.2=true):Am l=some (rR ⟨l,false⟩).1:=by
 unfold Am;simp only;rw[zzc h]
structure Jm(l:List iL)(aw:Int)(r1:ig):Prop where
 aw:(rR ⟨l,false⟩).1.1=aw
 ts:(rR ⟨l,false⟩).1.2=(pg vH (iJ 8 r1).1.toNat (iJ 8 r1).2).1
 rd:(rR ⟨l,false⟩).2=(pg vH (iJ 8 r1).1.toNat (iJ 8 r1).2).2
def Jm.is(l:List iL):Jm l (kr ⟨l,false⟩).1 (kr ⟨l,false⟩).2:=⟨rfl,rfl,rfl⟩
def qy(X:Η)(H:bw)(v:Ω)(bs:Δ)(hv:iV X v bs)(hN:bs.length<=140737488355328):SP 271 [v] [X,.mem H] (Ey X H bs):=by
 refine Enzz λW F w hS=>?_;apply g_g;delta P0 aI gi ai bI;have ko:oP bs=none->∀{w:Α} {H':bw},H.le H'->SL W (X::.mem H'::F) w->∃post,Ey X H bs (.tuple #[.int .i64 0,.slice none 0 0,.int .i64 3]) post/\SL W (app post F) w:=λh w H' hh hS=>⟨[X,.mem H'],by unfold Ey;rw[h];exact⟨rfl,H',hh,rfl⟩,hS⟩;refine Cc (YN X v bs hv hN) ?_;clear hS;rintro r post hq w hS;unfold xI at hq;cases ht:lY bs with
 | error e=>
  rw[ht]at hq
  obtain⟨rfl,rfl⟩:=hq;have hd:oP bs=none:=by unfold oP;rw[ht]
  have he:e≠0:=by have:=aFm ht;omega
  (try simp only[app]at hS);refine Gp ?_
  exact za (λ_=>ko hd (bw.le_refl H) (aW hS)) (λh=>absurd he h)
 | ok pn=>
  obtain⟨p,n⟩:=pn;rw[ht]at hq
  obtain⟨pv,rfl,rfl⟩:=hq;(try simp only[app]at hS);refine Gp ?_
  refine za (λh=>absurd rfl h) (λ_=>?_);refine yo hS Xh hv ?_;refine cF (λh=>?_) (λh=>?_)
  ·have hd:oP bs=none:=by unfold oP;rw[ht];simp only;rw[zzb (by omega)]
   exact ko hd (bw.le_refl H) (aW hS)
  have Ib:n=bs.length:=by omega
  refine Cc (yA _ pv p iV.own) ?_;clear hS;rintro r post hq w hS;unfold Bq at hq;cases hd:nL p with
  | error e=>
   rw[hd]at hq
   obtain⟨rfl,rfl⟩:=hq;have he:=J_ hd;have hd:oP bs=none:=by unfold oP;rw[ht];simp only;rw[zzc Ib,hd]
   (try simp only[app]at hS);refine Gp ?_
   exact za (λ_=>ko hd (bw.le_refl H) (aW hS)) (λh=>absurd he h)
  | ok l=>
   rw[hd]at hq
   obtain⟨lv,rfl,rfl⟩:=hq;have hI:=T7 ht Ib hd;(try simp only[app]at hS);refine Gp ?_
   refine za (λh=>absurd rfl h) (λ_=>?_);refine Cc (Za lv l) ?_;clear hS;rintro _ post ⟨rp,rfl,rfl⟩ w hS;try simp only[app]at hS
   refine Cc (zP rp ⟨l,false⟩) ?_;clear hS;rintro v1 post ⟨rfl,rfl⟩ w hS;try simp only[app]at hS
   have hR:=Jm.is l;generalize (kr ⟨l,false⟩).1=aw at *
   generalize (kr ⟨l,false⟩).2=r1 at *
   have su:=Ej (m:=8) (by decide) r1;refine Cc (zy rp r1 8) ?_;clear hS;rintro v1 post ⟨rfl,rfl⟩ w hS;try simp only[app]at hS
   have l9:=hR.ts;have iP:=hR.rd;generalize (iJ 8 r1).1=n1 at *
   generalize (iJ 8 r1).2=r2 at *
   have hS:SL W (.ob (bR (.slice none 0 0) 67 1 ([]:List (List Row)).length [])::_) _:=bR.nil hS;refine⟨λus w=>∃(k:Nat) (ts:List (List Row)) (r:ig) (tv:Ω) (vs:Γ) (H':bw),us=[tv,.int .i64 k]/\uo vH n1.toNat r2 ts k r/\(∀C∈ts,C.length<=1000)/\H.le H'/\sL H' vs ts/\SL W (.ob (bR tv 67 1 ts.length vs)::.ob (j9 rp r)::X::.mem H'::F) w,
    λus _=>match us with|[_,.int _ i]=>i.toNat|_=>0,⟨n1.toNat,[],r2,.slice none 0 0,[],H,by rw[show ((n1.toNat:Nat):Int)=n1 by omega],uo.start _ _ _,by simp,bw.le_refl H,sL.nil H,aW hS⟩,?_⟩
   clear hS;rintro tv v12 w ⟨k,ts,r,_,vs,H',gW,hM,Hz,hh,uK,hS⟩;cases gW;have hle:=hM.le;refine cF (λh=>?_) (λh=>?_)
   ·obtain⟨k,rfl⟩:∃j,k=j+1:=⟨k-1,by omega⟩;have hM:=hM.step;refine Cc (QH rp r) ?_;clear hS;rintro rv post ⟨hl,rfl⟩ w hS;try simp only[app]at hS
    obtain⟨H2,iW,hO,hS⟩:=zz (H:=H') (v:=rv) hS Xp;have lP:=hO.one;refine zL hS (UG lP) λb w hS=>?_;refine zI (n:=ts.length) (m:=1) hS Xr (oG (cs:=[rv]) hS Xh rfl) rfl rfl (by simpa using lP) (by omega) (by omega) ?_;clear hS;intro u w hS;refine Gp ?_;refine⟨⟨k,_,_,u,vs++[rv],H2,by rw[show ((k+1:Nat):Int)-1=(k:Int) by omega],hM,λC hC=>?_,bw.le_trans hh iW,(uK.mono iW).snoc hO,?_⟩,by dsimp only;omega⟩
    ·rcases zz0.1 hC with hC|hC
     ·exact Hz C hC
     rw[zz3.1 hC];exact hl
    have hS:=hS.u7 (x:=(vH r).1);exact aW hS
   obtain rfl:k=0:=by omega
   rw[hM.stop]at l9 iP
   have l9:(rR ⟨l,false⟩).1.2=ts:=l9;have iP:(rR ⟨l,false⟩).2=r:=iP;have oT:=hR.aw;obtain⟨H2,iW,hO,hS⟩:=zz (H:=H') (v:=tv) hS Xp;have kG:=bw.le_trans hh iW;have hT:AF H2 tv ts:=⟨vs,hO,uK.mono iW⟩;refine Cg (y6 rp r) λw hS=>?_;refine zu (λhb=>?_) (λhb=>?_)
   ·have hb:=yyz hb;exact ko (by rw[hI];exact WA λh=>hb ⟨by rw[<- iP];exact h.1,by rw[<- iP];exact h.2.1⟩) kG (aW hS)
   have hb:=zzl hb;refine Cg (Zl H2 tv aw ts hT (by omega) (λC hC=>by have:=Hz C hC;omega)) λw hS=>?_;refine zu (λhm=>?_) (λhm=>?_)
   ·exact ko (by rw[hI];exact WA λh=>by rw[oT,l9,hm]at h;cases h.2.2) kG (aW hS)
   skip
   have he:=eFm (l:=l) ⟨by rw[iP];exact hb.1,by rw[iP];exact hb.2,by rw[oT,l9];exact hm⟩;refine⟨[X,.mem H2],?_,aW hS⟩;unfold Ey;rw[hI,he];simp only;rw[oT,l9];exact⟨tv,H2,kG,hT,rfl,rfl⟩
abbrev rD(tp dp lp:Nat)(iZ image:Int):Γ:=[fw tp,fw dp,fw lp,.int .i64 iZ,.int .i64 image]
def iz(sp tp dp lp:Nat)(k:g_):zB:=zG True [.pt sp (rD tp dp lp k.iZ k.image) 156,.ob (i_ tp k.ts),.ob (ir lp dp k.g)]
section
variable {W w:Α} {l F:Ψ} {sp tp dp lp:Nat}
def iz.iff{k:g_}:SL W (.ob (iz sp tp dp lp k)::l) w↔SL W (.pt sp (rD tp dp lp k.iZ k.image) 156::.ob (i_ tp k.ts)::.ob (ir lp dp k.g)::l) w:=by
 unfold iz;simp only[SL.fact,uus,zzu,zzp]
def iz.put(k:g_)(hS:SL W l w)(p:lJ [.pt sp (rD tp dp lp k.iZ k.image) 156,.ob (i_ tp k.ts),.ob (ir lp dp k.g)] l F):SL W (.ob (iz sp tp dp lp k)::F) w:=iz.iff.2 (hS.pick p)
end
def iz.jT{W w:Α}{l F:Ψ}{sp tp dp lp:Nat}{g:ib}{d:DS}{ts:mI}{iZ image:Int}(hS:SL W l w)(p:lJ [.pt sp (rD tp dp lp iZ image) 156,.ob (i_ tp ts),.ob (ir lp dp g)] l F):SL W (.ob (iz sp tp dp lp ⟨g,d,ts,iZ,image⟩)::F) w:=iz.iff.2 (hS.pick p)
structure nF(k:g_)(N:Nat):Prop where
 g:mH k.g N
 d:k.d.Ok N
 rows:∀C∈k.ts,sM C
 len:∀C∈k.ts,C.length<=1000
 n1:1<=k.ts.length
 n8:k.ts.length<=8
section
variable (sp tp dp lp:Nat) (k:g_) {N:Nat} (hg:mH k.g N) (hN:N<=1000000000)
include hg hN
def zM:SP 48 [fw sp] [.ob (iz sp tp dp lp k)] (e_ (.int .i64 (f_ k.g.bF)) [.ob (iz sp tp dp lp k)]):=by
 refine Enzz λW F w hS=>?_;apply ia3;delta Su bW b_;have hS:=iz.iff.1 hS;refine Gp ?_;refine Cg (ZZ lp dp k.g hg.ok (by omega)) λw hS=>?_;exact⟨_,⟨rfl,rfl⟩,SL.cR (iz.put k hS Xp) Xi⟩
def ZA:SP 49 [fw sp] [.ob (iz sp tp dp lp k)] (e_ (.int .i64 (j7 k.g.bF)) [.ob (iz sp tp dp lp k)]):=by
 refine Enzz λW F w hS=>?_;apply ia4;delta Sv bW b_;have hS:=iz.iff.1 hS;refine Gp ?_;refine Cg (Zu lp dp k.g hg.ok (by omega)) λw hS=>?_;exact⟨_,⟨rfl,rfl⟩,SL.cR (iz.put k hS Xp) Xi⟩
def Bx(sp tp dp lp:Nat)(k:g_)(H:bw)(aw:Int)(r:Ω)(post:Ψ):Prop:=match k.mF aw with
 | .error e=>e≠0/\∃H',H.le H'/\r= .tuple #[agg (kJ GK),.int .i64 e]/\post=[.ob (iz sp tp dp lp k),.mem H']
 | .ok t=>∃x H',H.le H'/\r= .tuple #[agg (kJ x),.int .i64 0]/\rH H' x t/\post=[.ob (iz sp tp dp lp k),.mem H']
def Zd(H:bw)(aw:Int)(hl : -9000000000000000000<=aw/\aw<=9000000000000000000):SP 86 [fw sp,.int .i64 aw] [.ob (iz sp tp dp lp k),.mem H] (Bx sp tp dp lp k H aw):=by
 refine Enzz λW F w hS=>?_;apply ibv;delta SZ aI bW b_ ai bI;refine Gb λzb w hS=>?_;have hS:=iz.iff.1 (SL.cR hS (t:=.ob (iz sp tp dp lp k)::.pt zb [.int .i64 0,.int .i64 0,.slice none 0 0,.slice none 0 0,.int .i64 0] 101::.mem H::F) Xi);refine Gp ?_;refine Cc (Z9 lp dp k.g hg.ok (by omega) aw hl) ?_;clear hS;rintro r post hq w hS;unfold GU at hq;cases hr:rV k.g.bF aw with
 | none=>
  rw[hr]at hq
  obtain⟨rfl,rfl⟩:=hq;have he:k.mF aw= .error 5:=by unfold g_.mF;rw[hr]
  try simp only[app]at hS
  have hS:=iz.put k hS Xp;refine Gp ?_;refine za (λ_=>?_) (λh=>absurd (by decide) h);refine Gn λw hS=>?_;exact⟨[.ob (iz sp tp dp lp k),.mem H],by unfold Bx;rw[he];exact⟨by decide,H,bw.le_refl H,rfl,rfl⟩,aW hS⟩
 | some bs=>
  rw[hr]at hq
  obtain⟨u,rfl,rfl⟩:=hq;have he:k.mF aw=pN bs:=by unfold g_.mF;rw[hr]
  try simp only[app]at hS
  have hS:=iz.put k hS Xp;refine Gp ?_;refine za (λh=>absurd rfl h) (λ_=>?_);refine Cc (Z5 (.ob (bR u 5 1 bs.length (bs.map ic))) H u bs iV.own) ?_;clear hS;rintro r post hq w hS;unfold Br at hq;cases hd:pN bs with
  | error e=>
   rw[hd]at hq
   obtain⟨iX,H',hh,rfl,rfl⟩:=hq;try simp only[app]at hS
   unfold kJ GK;refine Gn λw hS=>?_;refine⟨[.ob (iz sp tp dp lp k),.mem H'],?_,aW hS⟩;unfold Bx;rw[he,hd];exact⟨iX,H',hh,rfl,rfl⟩
  | ok t=>
   rw[hd]at hq
   obtain⟨x,H',hh,rfl,hx,rfl⟩:=hq;try simp only[app]at hS
   have lP:=hx.cv.one;have oz:=hx.sv.one;refine Gp ?_;refine zr (vs:=kJ x) hS Xu rfl rfl (Dn (aw:=x.aw) (kind:=x.kind) (mark:=x.mark) lP oz) λw hS=>?_;refine zC hS Xh rfl ?_;refine⟨[.ob (iz sp tp dp lp k),.mem H'],?_,aW hS⟩;unfold Bx;rw[he,hd];exact⟨x,H',hh,rfl,hx,rfl⟩
end
section
variable (sp tp dp lp:Nat) (k:g_)
def qL(t key n:Int)(hn:∀C∈k.ts,C.length<=1000000)(hs:∀C∈k.ts,lj C)(h1 : -1000000<=n)(h2:n<=9000000000000000000):SP 172 [fw sp,.int .i64 t,.int .i64 key,.int .i64 n] [.ob (iz sp tp dp lp k)] (λu post=>post=[kD u (k.BL t key n),.ob (iz sp tp dp lp k)]):=by
 refine Enzz λW F w hS=>?_;apply gI7;delta OF bW;have hS:=iz.iff.1 hS;refine Gp ?_;refine Cc (qO tp k.ts t key n hn hs h1 h2) ?_;clear hS;rintro u post rfl w hS;try simp only[app]at hS
 exact⟨_,rfl,SL.cR (t:=kD u (s_ (ny k.ts t) key n)::.ob (iz sp tp dp lp k)::F) (iz.put k hS Xp) Xi⟩
end
def ZT(H:bw)(v:Ω)(l:List jB)(n:Int)(hv:iD H 4 v l.length (l.map kQ).flatten)(hl:l.length<=140737488351232):SP 109 [v,.int .i64 n] [.mem H] (e_ (.bool (decide (∀c∈l,c.table<n))) [.mem H]):=by
 refine Enzz λW F w hS=>?_;apply gFn;delta NJ aI a_ cW ai gI;refine zo hv ?_;refine⟨λus w=>∃i:Nat,us=[.int .i64 i]/\i<=l.length/\(∀j (h:j<l.length),j<i->l[j].table<n)/\SL W (.mem H::F) w,λus _=>match us with|[.int _ i]=>(l.length-i).toNat|_=>0,⟨0,rfl,by omega,λj h hj=>by omega,hS⟩,?_⟩;clear hS;rintro v9 w ⟨i,gW,hi,jJ,hS⟩;cases gW;refine cF (λh=>?_) (λh=>?_)
 ·have d_:i<l.length:=by omega
  refine zE hS Xh wW hv (x:=l[i]) (by simp[d_]) d_ ?_;have hf:¬l[i].table<n->decide (∀c∈l,c.table<n)=false:=λh=>zzz λh2=>h (h2 _ (zzg d_));have KK:l[i].table<n->∀j (h:j<l.length),j<i+1->l[j].table<n:=λh j hj m_=>by
   by_cases e:j=i
   ·subst e;exact h
   exact jJ j hj (by omega)
  clear jJ;generalize l[i]=c at *
  obtain⟨ct,ck,cg,cv⟩:=c;rw[Ur];refine Gm λb w hS=>?_;refine za (λhb=>?_) (λhb=>?_)
  ·rw[hf (by show ¬ct<n;omega)];(exact dW hS)
  refine Gp ?_;refine⟨⟨i+1,rfl,by omega,KK (by show ct<n;omega),aW hS⟩,by dsimp only;omega⟩
 rw[show decide (∀c∈l,c.table<n)=true from zzm λc hc=>by
  obtain⟨j,hj,rfl⟩:=yyi hc;exact jJ j hj (by omega)]
 (exact dW hS)
def Xk{t:fF}(h:jC t=true){n:Int}(h1:1<=n)(h2:n<=1099511627776):jC {t with aw:=n}=true:=by
 obtain⟨_,h3⟩:=Bd.1 h;exact Bd.2 ⟨⟨h1,h2⟩,h3⟩
abbrev C1(sp tp dp lp:Nat)(H:bw)(y:g_ × (Int × Int)):Ω->Ψ->Prop:=e_ (.tuple #[.int .i64 y.2.1,.int .i64 y.2.2]) [.ob (iz sp tp dp lp y.1),.ob (cw dp y.1.d),.mem H]
def YK(sp tp dp lp:Nat)(k:g_)(H:bw)(x:s9)(t:fF)(hx:rH H x t)(hm:jC t=true){N:Nat}(hk:nF k N)(hN:N<=1000000000)(iY:k.d.ops<=90000):
  SP 111 [fw sp,agg (kJ x)] [.ob (iz sp tp dp lp k),.ob (cw dp k.d),.mem H] (C1 sp tp dp lp H (k.lK t)):=by
 refine Enzz λW F w hS=>?_;apply gFq;delta NM aI bW a_ gi ai;have hg:=hk.g;obtain⟨ht1,Ii,ht3,ht4,ht5,We,ht7⟩:=sA hm;have KW:=y' hg.ok.bF;have Lg:∀C∈k.ts,C.length<=1000000:=λC hC=>by have:=hk.len C hC;omega
 have k_:∀C∈k.ts,lj C:=λC hC=>(hk.rows C hC).sorted;have h8:=hk.n8;refine zw hS λxb w hS=>?_;unfold kJ at hS;rw[hx.aw,hx.kind,hx.mark]at hS
 have hS:=iz.iff.1 (SL.cR hS (t:=.ob (iz sp tp dp lp k)::xJ xb x t::.ob (cw dp k.d)::.mem H::F) Xi);refine Gp ?_;refine Cg (zK dp k.d) λw hS=>?_;cases ho:k.d.off with
 | true=>
  refine zq ?_;rw[show k.lK t=(k,(0,8)) by unfold g_.lK;rw[zzc ho]];exact⟨_,⟨rfl,rfl⟩,SL.cR (iz.put k hS Xp) Xi⟩
 | false=>
  refine zp ?_;refine Gn λw hS=>?_;refine Cg (Q2 tp k.ts H x.cv t.changes hx.cv (by omega) k_ Lg (by omega) (by omega)) λw hS=>?_;refine zu (λhf=>?_) (λhf=>?_)
  ·rw[show k.lK t=(k,(0,7)) by unfold g_.lK;rw[zzb (by simp[ho]),zzc (.inl hf)]];exact⟨_,⟨rfl,rfl⟩,SL.cR (iz.put k hS Xp) Xi⟩
  have hS:=iz.put k hS Xp;refine Cg (zM sp tp dp lp k hg hN) λw hS=>?_;refine za (λhh=>?_) (λhh=>?_)
  ·rw[show k.lK t=(k,(0,7)) by unfold g_.lK;rw[zzb (by simp[ho]),zzc (.inr hh)]];exact dW hS
  refine Cg (zM sp tp dp lp k hg hN) λw hS=>?_;have Ae:=Xk hm (n:=f_ k.g.bF+1) (by omega) (by omega);have tA:rH H ⟨f_ k.g.bF+1,t.kind,x.cv,x.sv,t.mark⟩ {t with aw:=f_ k.g.bF+1}:=⟨rfl,rfl,rfl,hx.cv,hx.sv⟩;have Va:k.lK t=(let r:=ki k.g k.d (lB {t with aw:=f_ k.g.bF+1});if r.2.2=0 then ({k with g:=r.1.1,d:=r.1.2,ts:=kZ k.ts t.changes},(f_ k.g.bF+1,0)) else ({k with g:=r.1.1,d:=r.1.2},(0,r.2.2))):=by
   unfold g_.lK;rw[zzb (by simp[ho]),zzb (by rw[hf];simp;omega)]
  have uN:=J0 Ae;have Vf:=TF Ae;rw[Va];clear Va;generalize hq:({t with aw:=f_ k.g.bF+1}:fF)=t2 at *
  have DH:1<=f_ k.g.bF+1:=by omega
  generalize f_ k.g.bF+1=aw at *
  refine Cc (Z6 H ⟨aw,t.kind,x.cv,x.sv,t.mark⟩ t2 tA) ?_;clear hS;rintro r post hq w hS;unfold EB at hq;rw[Vf]at hq
  obtain⟨bv,rfl,rfl⟩:=hq;try simp only[app]at hS
  have hS:=iz.iff.1 (SL.cR hS (t:=.ob (iz sp tp dp lp k)::.ob (bR bv 5 1 (sP t2).length ((sP t2).map ic))::.ob (cw dp k.d)::.pt xb [.int .i64 aw,.int .i64 t.kind,x.cv,x.sv,.int .i64 t.mark] 101::.mem H::F) Xi);refine Gp ?_;refine⟨λus w=>us=[.int .i64 (ki k.g k.d (lB t2)).2.2]/\SL W (.ob (ir lp dp (ki k.g k.d (lB t2)).1.1)::.ob (cw dp (ki k.g k.d (lB t2)).1.2)::.pt sp (rD tp dp lp k.iZ k.image) 156::.ob (i_ tp k.ts)::.pt xb [.int .i64 aw,.int .i64 t.kind,x.cv,x.sv,.int .i64 t.mark] 101::.mem H::F) w,?_,?_⟩
  ·refine Gp ?_;refine za (λ_=>?_) (λh=>absurd rfl h);refine Gp ?_;refine Cg (Zg (.ob (bR bv 5 1 (sP t2).length ((sP t2).map ic))) lp dp k.g k.d bv (sP t2) iV.own (by omega) hg.ok (by omega) hk.d (by omega) iY) λw hS=>?_;exact aW hS
  clear hS;rintro v7 w ⟨gW,hS⟩;cases gW;generalize ki k.g k.d (lB t2)=r at *
  obtain⟨⟨g',d'⟩,n',e'⟩:=r;simp only at hS ⊢;refine cF (λhe=>?_) (λhe=>?_)
  ·rw[zzb he];exact⟨_,⟨rfl,rfl⟩,SL.cR (iz.jT (d:=d') hS Xp) Xi⟩
  have he:e'=0:=by omega
  rw[zzc he];refine Gn λw hS=>?_;refine Cg (ZM tp k.ts H x.cv t.changes hx.cv (by omega) k_ 1000 hk.len (by omega)) λw hS=>?_;have jJ:t.changes.all (mf k.ts.length)=true:=by
   unfold rL at hf;rw[zz9]at hf
   exact hf.1
  rw[zzc jJ]at hS
  exact⟨_,⟨rfl,rfl⟩,SL.cR (iz.jT (d:=d') hS Xp) Xi⟩
def Y3(sp tp dp lp:Nat)(k:g_)(H:bw)(sv cv:Ω)(sg:Θ)(l:List jB)(hs:iD H 1 sv sg.length (sg.map Value.string))(hc:iD H 4 cv l.length (l.map kQ).flatten)(hl:l.length<=140737488351232){N:Nat}(hk:nF k N)(hN:N<=1000000000)(iY:k.d.ops<=90000):
  SP 67 [fw sp,sv,cv] [.ob (iz sp tp dp lp k),.ob (cw dp k.d),.mem H] (C1 sp tp dp lp H (k.tg sg l)):=by
 refine Enzz λW F w hS=>?_;apply ibl;delta SN bW gi ai bI;have Cz:=hs.one;have lP:=hc.one;have hx:rH H ⟨1,1,cv,sv,0⟩ ⟨1,1,l,sg,0⟩:=⟨rfl,rfl,rfl,hc,hs⟩;have e0:mq [.int .i64 0,.int .i64 0,.slice none 0 0,.slice none 0 0,.int .i64 0] [(0,1,.int .i64 1),(1,1,.int .i64 1),(2,1,cv),(3,1,sv)]=some (kJ ⟨1,1,cv,sv,0⟩):=by
  simp[mq,show ∀n,(Value.int .i64 n).cells = #[.int .i64 n] from λ_=>rfl,D9 Cz,D9 lP,kJ]
 refine yT e0 ?_;refine Gb λxb w hS=>?_;refine zr hS Xu rfl rfl (Dn lP Cz) λw hS=>?_;refine zC hS Xh rfl ?_;refine Cg (yl H ⟨1,1,cv,sv,0⟩ ⟨1,1,l,sg,0⟩ hx) λw hS=>?_;refine zu (λhm=>?_) (λhm=>?_)
 ·rw[show k.tg sg l=(k,(0,1)) by unfold g_.tg;rw[zzb (by rw[hm];simp)]];exact dW hS
 have hS:=iz.iff.1 (SL.cR hS (t:=.ob (iz sp tp dp lp k)::.pt xb (kJ ⟨1,1,cv,sv,0⟩) 101::.ob (cw dp k.d)::.mem H::F) Xi);refine Gp ?_;refine Cg (yr tp k.ts) λw hS=>?_;refine Cg (ZT H cv l k.ts.length hc hl) λw hS=>?_;have hS:=iz.put k hS Xp;refine zu (λhb=>?_) (λhb=>?_)
 ·have hb:=yyz hb;rw[show k.tg sg l=(k,(0,1)) by unfold g_.tg;rw[zzb λh=>hb h.2]];exact dW hS
 have hb:=zzl hb;rw[show k.tg sg l=k.lK ⟨1,1,l,sg,0⟩ by unfold g_.tg;rw[zzc ⟨hm,hb⟩]];refine zC hS Xh rfl ?_;refine Cg (YK sp tp dp lp k H ⟨1,1,cv,sv,0⟩ ⟨1,1,l,sg,0⟩ hx hm hk hN iY) λw hS=>?_;exact dW hS
def rJ(d:DS)(f:Int):DS × Int:=if 0<=lH d.R f then d.cut f 0 else (d,0)
def th(d:DS)(f:Int)(b:Δ):DS × Int:=if (rJ d f).2=0 then (rJ d f).1.append f b else rJ d f
def Um(d:DS)(f:Int)(b:Δ):pa d f b=if (th d f b).2=0 then (th d f b).1.sync f else th d f b:=by
 unfold pa th;rw[show (if 0<=lH d.R f then d.cut f 0 else (d,0))=rJ d f from rfl];generalize rJ d f=c;simp only;by_cases h:c.2=0
 ·rw[zzb (by simp[h]),zzc h];generalize c.1.append f b=a;by_cases h2:a.2=0
  ·rw[zzb (by simp[h2]),zzc h2]
  rw[zzc h2,zzb h2]
 rw[zzc h,zzb h,zzb h]
def Ul{d:DS}{f:Int}{N:Nat}(h:d.Ok N):(rJ d f).1.Ok N/\(rJ d f).1.ops<=d.ops+1:=by
 unfold rJ;split
 ·exact⟨h.cut f 0,X6 d f 0⟩
 exact⟨h,Nat.le_succ _⟩
def Uk{d:DS}{f:Int}{b:Δ}{N:Nat}(h:d.Ok N):(th d f b).1.Ok (N+b.length)/\(th d f b).1.ops<=d.ops+2:=by
 obtain⟨h1,h2⟩:=Ul (f:=f) h;unfold th;split
 ·exact⟨h1.append f b,by have:=X5 (rJ d f).1 f b;omega⟩
 exact⟨h1.mono (by omega),by omega⟩
def Un{d:DS}{f:Int}{b:Δ}{N:Nat}(h:d.Ok N):(pa d f b).1.Ok (N+b.length)/\(pa d f b).1.ops<=d.ops+3:=by
 obtain⟨h1,h2⟩:=Uk (f:=f) (b:=b) h;rw[Um];split
 ·exact⟨h1.sync f,by have:=fFc (th d f b).1 f;omega⟩
 exact⟨h1,by omega⟩
def nF.nf{k:g_}{N:Nat}(h:nF k N):nf (f_ k.g.bF) k.ts=true:=
 wC.2 ⟨⟨(y' h.g.ok.bF).1,h.g.hd,h.n1,h.n8⟩,λC hC=>⟨(h.rows C hC).sorted,(h.rows C hC).rows,h.len C hC⟩⟩
def sL.zero(H:bw)(ts:List (List Row)):sL H [] (ts.take 0):=sL.nil H
def QR(sp tp dp lp:Nat)(k:g_)(H:bw){N:Nat}(hk:nF k N)(hN:N<=1000000000)(iY:k.d.ops<=90000):
  SP 181 [fw sp] [.ob (iz sp tp dp lp k),.ob (cw dp k.d),.mem H] (λv post=>v= .int .i64 k.mS.2/\∃H',H.le H'/\post=[.ob (iz sp tp dp lp k.mS.1),.ob (cw dp k.mS.1.d),.mem H']):=by
 refine Enzz λW F w hS=>?_;apply gRg;delta OO aI bW ia ai bI;have Lg:∀C∈k.ts,C.length<=1000000:=λC hC=>by have:=hk.len C hC;omega
 have h8:=hk.n8;have sU:=hk.nf;have hS:=iz.iff.1 hS;refine⟨λus w=>us=[.int .i64 (nE k)]/\SL W (.pt sp (rD tp dp lp k.iZ k.image) 156::.ob (i_ tp k.ts)::.ob (ir lp dp k.g)::.ob (cw dp k.d)::.mem H::F) w,?_,?_⟩
 ·refine cF (λh=>?_) (λh=>?_)
  ·rw[show nE k=1 by unfold nE;rw[zzc h]];refine Gp ?_;first|exact hS|exact⟨rfl,hS⟩
  rw[show nE k=0 by unfold nE;rw[zzb h]];first|exact hS|exact⟨rfl,hS⟩
 clear hS;rintro v3 w ⟨gW,hS⟩;cases gW;generalize hf:nE k=f at *
 refine Gp ?_;refine Cg (yr tp k.ts) λw hS=>?_;have hS:SL W (.ob (bR (.slice none 0 0) 67 1 (k.ts.take 0).length [])::_) _:=bR.nil hS;refine⟨λus w=>∃(i:Nat) (tv:Ω) (vs:Γ) (H':bw),us=[tv,.int .i64 i]/\i<=k.ts.length/\H.le H'/\sL H' vs (k.ts.take i)/\SL W (.ob (bR tv 67 1 (k.ts.take i).length vs)::.pt sp (rD tp dp lp k.iZ k.image) 156::.ob (i_ tp k.ts)::.ob (ir lp dp k.g)::.ob (cw dp k.d)::.mem H'::F) w,
  λus _=>match us with|[_,.int _ i]=>(k.ts.length-i).toNat|_=>0,⟨0,_,[],H,rfl,by omega,bw.le_refl H,sL.zero H k.ts,aW hS⟩,?_⟩
 clear hS;rintro tv v21 w ⟨i,_,vs,H',gW,hi,hh,hR,hS⟩;cases gW;refine cF (λh=>?_) (λh=>?_)
 ·have d_:i<k.ts.length:=by omega
  refine Gp ?_;refine Cc (Q4 tp k.ts i Lg) ?_;clear hS;rintro rv post rfl w hS;rw[tI k.ts i d_]at hS
  try simp only[app]at hS
  obtain⟨H2,iW,hO,hS⟩:=zz (H:=H') (v:=rv) hS Xp;have lP:=hO.one;have DH:(k.ts.take i).length=i:=by rw[zzf];omega
  refine zL hS (UG lP) λb w hS=>?_;refine zI (n:=(k.ts.take i).length) (m:=1) hS Xr (oG (cs:=[rv]) hS Xh rfl) rfl rfl (by simpa using lP) (by omega) (by omega) ?_;clear hS;intro u w hS;have l9:k.ts.take (i+1)=k.ts.take i++[k.ts[i]]:=zze d_;refine Gp ?_;refine⟨⟨i+1,u,vs++[rv],H2,rfl,by omega,bw.le_trans hh iW,by rw[l9];exact (hR.mono iW).snoc hO,?_⟩,by dsimp only;omega⟩;have hS:=hS.u7 (x:=k.ts[i]);rw[l9];exact aW hS
 obtain rfl:i=k.ts.length:=by omega
 rw[zz1]at hR hS
 obtain⟨H2,iW,hO,hS⟩:=zz (H:=H') (v:=tv) hS Xp;have kG:=bw.le_trans hh iW;have hT:AF H2 tv k.ts:=⟨vs,hO,hR.mono iW⟩;have hS:=iz.put k hS Xp;refine Cg (zM sp tp dp lp k hk.g hN) λw hS=>?_;refine Cc (qz H2 tv (f_ k.g.bF) k.ts hT (by omega) (λC hC=>by have:=hk.len C hC;omega)) ?_;clear hS;rintro r post hq w hS;unfold GO Hg at hq;rw[zzc sU]at hq
 obtain⟨bv,rfl,rfl⟩:=hq;(try simp only[app]at hS);refine Gp ?_
 have uN:(ij (nk (f_ k.g.bF) k.ts)).length<=400000:=by rw[oY];have:=D2 sU;omega
 have hD:k.mS=(let r:=pa k.d f (ij (nk (f_ k.g.bF) k.ts));if r.2=0 then ({k with d:=r.1,iZ:=f,image:=f_ k.g.bF},0) else ({k with d:=r.1},r.2)):=by rw[<- hf];rfl
 rw[hD];clear hD sU;generalize ij (nk (f_ k.g.bF) k.ts)=B at *
 have hS:=iz.iff.1 (SL.cR hS (t:=.ob (iz sp tp dp lp k)::.ob (bR bv 5 1 B.length (B.map ic))::.ob (cw dp k.d)::.mem H2::F) Xi);refine⟨λus w=>us=[.int .i64 (rJ k.d f).2]/\SL W (.ob (cw dp (rJ k.d f).1)::.ob (bR bv 5 1 B.length (B.map ic))::.pt sp (rD tp dp lp k.iZ k.image) 156::.ob (i_ tp k.ts)::.ob (ir lp dp k.g)::.mem H2::F) w,?_,?_⟩
 ·refine Gp ?_;refine za (λ_=>?_) (λh=>absurd rfl h);refine Gp ?_;refine Cg (Yz dp k.d f) λw hS=>?_;refine za (λh0=>?_) (λh0=>?_)
  ·rw[show rJ k.d f=k.d.cut f 0 by unfold rJ;rw[zzc h0]];refine Gp ?_;refine Cg (Zs dp k.d N hk.d (by omega) (by omega) f 0) λw hS=>?_;first|exact aW hS|exact⟨rfl,aW hS⟩
  rw[show rJ k.d f=(k.d,0) by unfold rJ;rw[zzb h0]];first|exact aW hS|exact⟨rfl,aW hS⟩
 clear hS;rintro v7 w ⟨gW,hS⟩;cases gW;obtain⟨lP,oz⟩:=Ul (f:=f) hk.d;refine⟨λus w=>us=[.int .i64 (th k.d f B).2]/\SL W (.ob (cw dp (th k.d f B).1)::.pt sp (rD tp dp lp k.iZ k.image) 156::.ob (i_ tp k.ts)::.ob (ir lp dp k.g)::.mem H2::F) w,?_,?_⟩
 ·refine cF (λh0=>?_) (λh0=>?_)
  ·rw[show th k.d f B=(rJ k.d f).1.append f B by unfold th;rw[zzc h0]];refine Gp ?_;refine Cg (JQ (.ob (bR bv 5 1 B.length (B.map ic))) dp (rJ k.d f).1 N lP (by omega) f bv B (λh m=>sC h m) (by omega)) λw hS=>?_;first|exact aW hS|exact⟨rfl,aW hS⟩
  rw[show th k.d f B=rJ k.d f by unfold th;rw[zzb h0]];first|exact aW hS|exact⟨rfl,aW hS⟩
 clear hS;rintro v7 w ⟨gW,hS⟩;cases gW;obtain⟨rh,B9⟩:=Uk (f:=f) (b:=B) hk.d;rw[Um];generalize th k.d f B=a at *
 simp only;refine cF (λh0=>?_) (λh0=>?_)
 ·rw[zzc h0];refine Gp ?_;refine Cg (Yi dp a.1 (N+B.length) rh (by omega) f) λw hS=>?_;generalize a.1.sync f=c at *
  refine za (λhe=>?_) (λhe=>?_)
  ·rw[zzb he];exact⟨_,⟨rfl,H2,kG,rfl⟩,SL.cR (iz.jT (d:=c.1) hS Xp) Xi⟩
  rw[zzc (show c.2=0 by omega)];have hS:=iz.put k hS Xp;refine Cg (zM sp tp dp lp k hk.g hN) λw hS=>?_;have hS:=iz.iff.1 (SL.cR hS (t:=.ob (iz sp tp dp lp k)::.ob (cw dp c.1)::.mem H2::F) Xi);refine Gn λw hS=>?_;exact⟨_,⟨rfl,H2,kG,rfl⟩,SL.cR (iz.jT (d:=c.1) (iZ:=f) (image:=f_ k.g.bF) hS Xp) Xi⟩
 rw[zzb h0,zzb h0];refine Gp ?_;refine za (λhe=>?_) (λhe=>absurd (by omega) h0);exact⟨_,⟨rfl,H2,kG,rfl⟩,SL.cR (iz.jT (d:=a.1) hS Xp) Xi⟩
def QW(sp tp dp lp:Nat)(k:g_)(H:bw)(aw:Int){N:Nat}(hk:nF k N)(hN:N<=900000000)(iY:k.d.ops+k.g.bF.length<=90000):
  SP 120 [fw sp,.int .i64 aw] [.ob (iz sp tp dp lp k),.ob (cw dp k.d),.mem H] (λv post=>v= .int .i64 (k.mG aw).2/\∃H',H.le H'/\post=[.ob (iz sp tp dp lp (k.mG aw).1),.ob (cw dp (k.mG aw).1.d),.mem H']):=by
 refine Enzz λW F w hS=>?_;apply gFz;delta NV aI bW ai;have lU:∀{w:Α} {e:Int},k.mG aw=(k,e)->SL W (.ob (iz sp tp dp lp k)::.ob (cw dp k.d)::.mem H::F) w->∃post,((.int .i64 e:Ω)= .int .i64 (k.mG aw).2/\∃H',H.le H'/\post=[.ob (iz sp tp dp lp (k.mG aw).1),.ob (cw dp (k.mG aw).1.d),.mem H'])/\SL W (app post F) w:=λhe hS=>by
  rw[he];exact⟨_,⟨rfl,H,bw.le_refl H,rfl⟩,hS⟩
 refine Gp ?_;refine za (λh=>lU (by unfold g_.mG;rw[zzc (.inl h)]) hS) (λh1=>?_);refine Cg (zM sp tp dp lp k hk.g (by omega)) λw hS=>?_;refine za (λh=>lU (by unfold g_.mG;rw[zzc (.inr h)]) (aW hS)) (λh2=>?_);have hS:=iz.iff.1 (SL.cR hS (t:=.ob (iz sp tp dp lp k)::.ob (cw dp k.d)::.mem H::F) Xi);refine Gp ?_;refine Cg (zK dp k.d) λw hS=>?_;have hS:=iz.put k hS Xp;have iW:¬(aw<0\/f_ k.g.bF<aw):=by omega
 cases ho:k.d.off with
 | true=>
  refine zq ?_;exact lU (by unfold g_.mG;rw[zzb iW,zzc ho]) (aW hS)
 | false=>
  refine zp ?_;have hT:k.mG aw=(let r:=if k.image<aw then k.mS else (k,0);if r.2≠0 then r else let t:=mv r.1.g r.1.d aw;({r.1 with g:=t.1.1,d:=t.1.2},t.2)):=by
   unfold g_.mG;rw[zzb iW,zzb (by simp[ho])]
  rw[hT];clear hT lU;have hS:=iz.iff.1 (SL.cR hS (t:=.ob (iz sp tp dp lp k)::.ob (cw dp k.d)::.mem H::F) Xi);refine cF (λh3=>?_) (λh3=>?_)
  ·rw[zzc h3];have hS:=iz.put k hS Xp;refine Cc (QR sp tp dp lp k H hk (by omega) (by omega)) ?_;clear hS;rintro v post ⟨rfl,H',hh,rfl⟩ w hS;try simp only[app]at hS
   have Aa:k.mS.1.g=k.g:=by unfold g_.mS;simp only;split<;>rfl
   have AY:k.mS.1.d.Ok (N+400000)/\k.mS.1.d.ops<=k.d.ops+3:=by
    have sU:=hk.nf;have uN:(ij (nk (f_ k.g.bF) k.ts)).length<=400000:=by rw[oY];have:=D2 sU;omega
    obtain⟨a,b⟩:=Un (f:=nE k) (b:=ij (nk (f_ k.g.bF) k.ts)) hk.d;have:k.mS.1.d=(pa k.d (nE k) (ij (nk (f_ k.g.bF) k.ts))).1:=by unfold g_.mS;simp only;split<;>rfl
    rw[this];exact⟨a.mono (by omega),b⟩
   generalize k.mS=r at *
   obtain⟨k2,e⟩:=r;simp only at Aa AY hS ⊢;refine cF (λhe=>?_) (λhe=>?_)
   ·rw[zzc he];exact⟨_,⟨rfl,H',hh,rfl⟩,aW hS⟩
   rw[zzb he];have hS:=iz.iff.1 hS;refine Gp ?_;refine Cg (Zo lp dp k2.g k2.d aw (by rw[Aa];exact hk.g.ok) (by omega) AY.1 (by rw[Aa];omega)) λw hS=>?_;exact⟨_,⟨rfl,H',hh,rfl⟩,SL.cR (iz.jT (d:=(mv k2.g k2.d aw).1.2) hS Xp) Xi⟩
  rw[zzb h3];simp only;rw[zzb (by simp)];refine Gp ?_;refine Cg (Zo lp dp k.g k.d aw hk.g.ok (by omega) hk.d (by omega)) λw hS=>?_;exact⟨_,⟨rfl,H,bw.le_refl H,rfl⟩,SL.cR (iz.jT (d:=(mv k.g k.d aw).1.2) hS Xp) Xi⟩
def gw(n:Int)(l:List fF)(k:Int):List (List Row):=if n<1\/8<n then [] else (List.range n.toNat).map λt:Nat=>B1 t (l.take (dIb k l.length))
def cIv(l:List fF)(tb:Int)(i:Nat):(B1 tb (l.take i)).length<=(l.flatMap (·.changes)).length:=by
 have h2:=eWa (l:=(l.take i).flatMap (·.changes)) [] tb;have e:(l.flatMap (·.changes)).length=((l.take i).flatMap (·.changes)).length+((l.drop i).flatMap (·.changes)).length:=by
  have:l=l.take i++l.drop i:=by simp
  conv=>lhs;rw[this]
  simp only[vv5,zza]
 unfold B1;simp only[yyo]at h2;omega
def Mm{base size:Int}(b0:0<=base)(b1:base<=12288)(s0:64<=size)(s1:size<=65536):jX lS base size=(lS,.ok ⟨[],base,size,none⟩):=
 Mp (L:=[]) (f:=base) (n:=1) trivial rfl rfl b0 b1 s0 s1 (yyc _) (by simp;omega) (by decide) (by simp[gR])
def eWc{base size:Int}(b0:0<=base)(b1:base<=12288)(s0:64<=size)(s1:size<=65536):lI ⟨[],base,size,none⟩ lS base 1 []:=
 ⟨trivial,rfl,rfl,λ_=>⟨rfl,rfl⟩,yyc _,b0,b1,s0,s1,by decide,by show base+((0:Nat):Int)+2<=base+4096;omega,rfl,rfl⟩
def fwr{base size:Int}(b0:0<=base)(b1:base<=12288)(s0:64<=size)(s1:size<=65536):(⟨[],base,size,none⟩:ib).Ok 0:=⟨by simp,b0,b1,s0,s1,zzi _⟩
structure s8(n:Nat)(all:List fF):Prop where
 ok:wP n all
 len:all.length<=1000
 nK:(all.flatMap (·.changes)).length<=1000
def s8.nil(n:Nat):s8 n []:=⟨⟨by simp,λi h=>by simp at h,by simp⟩,by decide,by decide⟩
def s8.take{n:Nat}{all:List fF}(h:s8 n all)(j:Nat):s8 n (all.take j):=by
 refine⟨⟨λt ht=>h.ok.may t (yyn ht),λi hi=>?_,λt ht=>h.ok.ch t (yyn ht)⟩,by rw[zzf];have:=h.len;omega,?_⟩
 ·rw[uuj];exact h.ok.aw i _
 have e:(all.flatMap (·.changes)).length=((all.take j).flatMap (·.changes)).length+((all.drop j).flatMap (·.changes)).length:=by
  conv=>lhs;rw[<- yyl j all]
  rw[vv5,zza]
 have:=h.nK;omega
def s8.row{n:Nat}{all:List fF}(h:s8 n all):∀C∈kF n all,C.length<=1000:=λC hC=>by
 unfold kF at hC;obtain⟨t,_,rfl⟩:=zzy.1 hC;have:=cIv all (t:Int) all.length;rw[zz1]at this
 have:=h.nK;omega
def s8.rows{n:Nat}{all:List fF}(h:s8 n all):∀C∈kF n all,sM C:=M0 h.ok.may h.ok.ch
def s8.CH{n:Nat}{all:List fF}(h:s8 n all)(n1:1<=n)(n8:n<=8):C3 n all:=λj hj=>by
 have ht:=h.take j;have hl:=h.len;refine wC.2 ⟨⟨by omega,by omega,by rw[u9];exact n1,by rw[u9];exact n8⟩,λC hC=>⟨(ht.rows C hC).sorted,(ht.rows C hC).rows,ht.row C hC⟩⟩
def nF.mono{k:g_}{N M:Nat}(h:nF k N)(hm:N<=M):nF k M:=⟨h.g.mono hm,h.d.mono hm,h.rows,h.len,h.n1,h.n8⟩
def nF.add{k:g_}{N:Nat}(h:nF k N){t:fF}(hm:jC t=true):nF (k.lK t).1 (N+2000):=by
 unfold g_.lK;split
 ·exact h.mono (by omega)
 split
 ·exact h.mono (by omega)
 rename_i ho hf;have Ab:=y' h.g.ok.bF;have Ae:=Xk hm (n:=f_ k.g.bF+1) (by omega) (by omega);have hl:=J0 Ae;have hb:(lB {t with aw:=f_ k.g.bF+1}).length<=1200:=hl;have hg:=Tk (d:=k.d) h.g (lB {t with aw:=f_ k.g.bF+1});have hd:=Tl (g:=k.g) h.d (lB {t with aw:=f_ k.g.bF+1});generalize lB {t with aw:=f_ k.g.bF+1}=p at *
 have uP:rL k.ts t.changes=true:=by
  cases hq:rL k.ts t.changes with
  | true=>rfl
  | false=>exact absurd (Or.inl hq) hf
 simp only;split
 ·unfold rL at uP;rw[zz9,zz5,zz5]at uP
  refine⟨hg.mono (by omega),hd.mono (by omega),JT (k:=8) h.rows (sA hm).2.2.2.2.2.1 uP.1,λC hC=>zzl (uP.2 C hC),?_,?_⟩
  ·show 1<=(kZ k.ts t.changes).length;rw[xM];exact h.n1
  show (kZ k.ts t.changes).length<=8;rw[xM];exact h.n8
 exact⟨hg.mono (by omega),hd.mono (by omega),h.rows,h.len,h.n1,h.n8⟩
def nF.draw{k:g_}{N:Nat}(h:nF k N):nF k.mS.1 (N+400000):=by
 have sU:=h.nf;have uN:(ij (nk (f_ k.g.bF) k.ts)).length<=400000:=by rw[oY];have:=D2 sU;omega
 obtain⟨hd,_⟩:=Un (f:=nE k) (b:=ij (nk (f_ k.g.bF) k.ts)) h.d;have hd:=hd.mono (M:=N+400000) (by omega);unfold g_.mS;simp only;split
 ·exact⟨h.g.mono (by omega),hd,h.rows,h.len,h.n1,h.n8⟩
 exact⟨h.g.mono (by omega),hd,h.rows,h.len,h.n1,h.n8⟩
def nF.trim{k:g_}{N:Nat}(h:nF k N)(aw:Int):nF (k.mG aw).1 (N+400000):=by
 unfold g_.mG;split
 ·exact h.mono (by omega)
 split
 ·exact h.mono (by omega)
 have hr:nF (if k.image<aw then k.mS else (k,0)).1 (N+400000):=by
  split
  ·exact h.draw
  exact h.mono (by omega)
 generalize (if k.image<aw then k.mS else (k,0))=r at *
 simp only;split
 ·exact hr
 exact⟨gww hr.g aw,gwy hr.d aw,hr.rows,hr.len,hr.n1,hr.n8⟩
def Bb(n:Nat)(size:Int):g_:=⟨⟨[],16,size,none⟩,lS,List.replicate n [],-1,0⟩
def f_0{n:Nat}(n1:1<=n)(n8:n<=8){size:Int}(s0:64<=size)(s1:size<=65536):pG lS n size=(lS,.ok (Bb n size))/\mX n (Bb n size) [] 0 [] lS 16 0 0:=by
 have pP:rF n [] [] (-1) 0:=⟨.nil,by simp,by simp,λ_=>rfl,.inl rfl,zzi _,λh=>absurd rfl h,by simp⟩;have hw:iO 16 4112 [] [] lS.R:=⟨by simp,by simp[lS],by simp⟩;have:=X4 n1 n8 (s8.nil n).ok ((s8.nil n).CH n1 n8) (I:=[]) (tr:=0) (Mm (base:=16) (by decide) (by decide) s0 s1) hw (eWc (by decide) (by decide) s0 s1) rfl pP (zzi _) (zzi _) (by decide);rw[MZ]at this
 exact this
def f_z{n:Nat}(n1:1<=n)(n8:n<=8){size:Int}(s0:64<=size)(s1:size<=65536):nF (Bb n size) 0:=
 ⟨⟨fwr (by decide) (by decide) s0 s1,trivial,show (0:Int)<=1099511627776 by decide,λx hx=>by cases hx⟩,Gv 0,λC hC=>by rw[(uue.1 hC).2];exact ai4,λC hC=>by rw[(uue.1 hC).2];exact zz8 _,by show 1<=(List.replicate n []).length;rw[xxf];exact n1,by show (List.replicate n []).length<=8;rw[xxf];exact n8⟩
def mX.read{n:Nat}{k:g_}{all:List fF}{tr:Nat}{I:List PF}{d0:DS}{f:Int}{lo m:Nat}(h:mX n k all tr I d0 f lo m)(ho:∀t∈all,jC t=true){j:Nat}(h1:lo<=j)(h2:j<all.length):k.mF ((j:Int)+1)= .ok all[j]:=by
 unfold g_.mF;rw[h.log.chain.read,zzc (by omega),h.log.lG];have e:(((j:Int)+1-((lo:Int)+1)).toNat)=j-lo:=by omega
 have e2:((all.drop lo).map lB)[j-lo]?=some (lB all[j]):=by
  rw[wwq,wwi,show lo+(j-lo)=j by omega,zzd h2];rfl
 rw[e,e2];exact TE (ho _ (zzg h2))
def mX.bF{n:Nat}{k:g_}{all:List fF}{tr:Nat}{I:List PF}{d0:DS}{f:Int}{lo m:Nat}(h:mX n k all tr I d0 f lo m):k.g.bF.length<=all.length+1:=by
 have:=h.log.chain.wA;rw[h.log.lG,zzs,zzq]at this
 omega
def X3{d d':DS}{n size:Int}{k:g_}(h:pG d n size=(d',.ok k)):jX d 16 size=(d',.ok k.g):=by
 unfold pG at h;split at h
 ·cases h
 split at h
 ·cases h
 rename_i g hg;simp only at h;split at h
 ·cases h
 split at h
 ·cases h;exact hg
 cases h
structure iM where
 n:Int
 state:Int
 mark:Int
 after:Int
 id:Int
 table:Int
 rows:List Row
 iH:Int
 last:Bool
abbrev rY(n:Int):iM:=⟨n,0,0,0,0,0,[],0,false⟩
def iM.CW(w:iM)(mark id table after:Int):Prop:=w.state≠0\/mark<1\/1099511627776<mark\/id<1\/64<id\/table<0\/8<=table\/after<0\/1099511627776<after
instance (w:iM) (mark id table after:Int):Decidable (w.CW mark id table after):=by unfold iM.CW;infer_instance
def iM.xB(w:iM)(mark id table after:Int):iM:=if w.CW mark id table after then w else ⟨w.n,1,mark,after,id,table,[],0,false⟩
def s6:Int->List Row->Bool
 | _,[]=>true
 | k,r::C=>decide (k<r.key/\r.key<=1099511627776) && s6 r.key C
def pH(after:Int)(C:List Row):Int:=(C.getLast?.map (·.key)).getD after
def iM.BZ(w:iM)(C:List Row):Prop:=w.state≠1\/w.n<C.length\/s6 w.after C=false
instance (w:iM) (C:List Row):Decidable (w.BZ C):=by unfold iM.BZ;infer_instance
def iM.fill(w:iM)(C:List Row):iM:=if w.BZ C then w else {w with state:=2,rows:=C,iH:=pH w.after C,last:=decide ((C.length:Int)<w.n)}
def iM.shut(w:iM):iM:=if w.state=2 then {w with state:=3} else w
def iM.waits(w:iM)(kind mark:Int):Bool:=decide (kind=2/\mark=w.mark/\(w.state=1\/w.state=2))
def iM.low(w:iM)(mark:Int):iM:=if w.state=3/\mark=w.mark then {w with state:=4} else w
def pA(t:Int)(l:List jB)(r:Row):Bool:=l.any λc=>decide (c.table=t/\c.key=r.key)
def iM.vF(w:iM)(l:List jB):iM:=if w.state=4 then {w with rows:=w.rows.filter λr=>!pA w.table l r} else w
def iM.Ac(w:iM)(mark aw:Int):Prop:=w.state≠4\/mark≠w.mark\/aw<1\/1099511627776<aw
instance (w:iM) (mark aw:Int):Decidable (w.Ac mark aw):=by unfold iM.Ac;infer_instance
def oF(w:iM)(aw:Int):List lA:=w.rows.map λr=>⟨aw,w.table,r.key,false,r.val⟩
def vA(w:iM):mn:=⟨2,w.id,0,0,0,w.iH,w.last⟩
def iM.high(w:iM)(mark aw:Int):iM × Option eF:=if w.Ac mark aw then (w,none) else (rY w.n,some ⟨aw,oF w aw,[vA w]⟩)
structure iI where
 l:List (Int × Int)
 at_:Int
 left:Int
abbrev BO:iI:=⟨[],-1,0⟩
def D1(d:iI)(id:Int):Option Nat:=d.l.findIdx? λm=>decide (m.1=id)
def iI.add(d:iI)(id weight:Int):iI:=
 if id<1\/64<id\/weight<1\/8<weight then d else match D1 d id with
 | some _=>d
 | none=>{d with l:=d.l++[(id,weight)]}
def iI.del(d:iI)(id:Int):iI:=match D1 d id with
 | none=>d
 | some i=>⟨d.l.eraseIdx i,if (i:Int)<=d.at_ then d.at_-1 else d.at_,if (i:Int)=d.at_ then 0 else d.left⟩
def iI.place(d:iI):Int:=if d.left=0 then (if (d.l.length:Int)<=d.at_+1 then 0 else d.at_+1) else d.at_
def iI.rz(d:iI):Int × Int:=(d.l[d.place.toNat]?).getD (0,0)
def iI.next(d:iI):iI × Int:=if d.l=[] then (d,0) else (⟨d.l,d.place,(if d.left=0 then d.rz.2 else d.left)-1⟩,d.rz.1)
structure iI.Ok(d:iI):Prop where
 rI : -1<=d.at_
 uz:d.at_<d.l.length
 Iu:0<=d.left
 Iv:d.left<=8
 neg:d.at_ = -1->d.left=0
 w:∀m∈d.l,1<=m.1/\m.1<=64/\1<=m.2/\m.2<=8
 nd:(d.l.map Prod.fst).Nodup
def AB:Δ:=[115,110,97,112,115,104,111,116,32]
def Bj:Δ->Option (Int × Int)
 | [d]=>if 48<=d.toNat/\d.toNat<=55 then some ((d.toNat:Int)-48,1) else none
 | [d,s,e]=>if (48<=d.toNat/\d.toNat<=55)/\s.toNat=32/\49<=e.toNat/\e.toNat<=56 then some ((d.toNat:Int)-48,(e.toNat:Int)-48) else none
 | _=>none
def IJ(s:Β):Option (Int × Int):=if s.data.toList.take 9=AB then Bj (s.data.toList.drop 9) else none
structure iK where
 tables:Int
 late:Int
 at_:Int
 reqs:List Rq
 dI:iM
def Gg(tables late chunk aw:Int)(L:List Rq):Prop:=tables<1\/8<tables\/late<0\/2 ^ tables.toNat<=late\/aw<0\/1099511627776<aw\/chunk<1\/64<chunk\/¬lr L\/∃r∈L,tables<=r.table\/aw<r.at_
def iK.captured(m:iK)(t:Int):Bool:=decide (0<=t/\t<m.tables) && (decide (Tx m.late t=0) || m.reqs.any λr=>decide (r.table=t))
def iK.accept(m:iK)(s:Β)(aw:Int):List Rq × List mn:=match IJ s with
 | none=>(m.reqs,[])
 | some g=>if m.tables<=g.1 then (m.reqs,[]) else match ux m.reqs g.1 g.2 aw with
  | none=>(m.reqs,[])
  | some L=>(L,[⟨1,L.length,g.1,g.2,aw,0,false⟩])
def iK.j_(m:iK)(aw:Int):Θ->iK × List mn
 | []=>(m,[])
 | s::l=>let r:=m.accept s aw;let x:=iK.j_ {m with reqs:=r.1} aw l;(x.1,r.2++x.2)
def rA(m:iK)(aw:Int)(l:List jB):List lA:=(l.filter λc=>m.captured c.table).map λc=>⟨aw,c.table,c.key,c.gone,c.val⟩
def iK.De(m:iK)(t:fF):iK × eF:=
 let x:=m.j_ t.aw t.signals
 ({x.1 with dI:=x.1.dI.vF t.changes},⟨t.aw,rA x.1 t.aw t.changes,x.2⟩)
def iK.high(m:iK)(t:fF):iK × eF:=match m.dI.high t.mark t.aw with
 | (_,none)=>(m,⟨t.aw,[],[]⟩)
 | (w,some x)=>match p' m.reqs m.dI.id m.dI.iH m.dI.last with
  | none=>({m with dI:=w},{x with notes:=[]})
  | some L=>({m with dI:=w,reqs:=L},x)
def iK.take(m:iK)(t:fF):iK × (eF × Int):=
 if jC t=false then (m,(⟨0,[],[]⟩,1))
 else if t.aw≠m.at_+1\/m.dI.waits t.kind t.mark=true then (m,(⟨0,[],[]⟩,10))
 else if t.kind=1 then let r:=({m with at_:=t.aw}:iK).De t;(r.1,(r.2,0))
 else if t.kind=3 then let r:=({m with at_:=t.aw}:iK).high t;(r.1,(r.2,0))
 else ({m with at_:=t.aw,dI:=m.dI.low t.mark},(⟨t.aw,[],[]⟩,0))
def oa(L:List Rq):List Rq:=L.filter λr=>!r.done
structure ky where
 k:g_
 m:iK
 d:iI
 n:Int
def Gs(m:iK):Bool:=decide (m.dI.state=1\/m.dI.state=2\/(m.dI.state=0/\oa m.reqs≠[]))
def rB(d:iI)(L:List Rq):iI:=(oa L).foldl (λd r=>d.add r.id r.weight) ((L.filter (·.done)).foldl (λd r=>d.del r.id) d)
def As(L:List Rq)(id:Int):Option Rq:=if id<1 then none else L[(id-1).toNat]?
def ky.F_(p:ky)(r:Rq):ky × (Int × Int):=
 if (p.k.sy 2 (f_ p.k.g.bF+1)).2.2≠0 then ({p with k:=(p.k.sy 2 (f_ p.k.g.bF+1)).1},(0,(p.k.sy 2 (f_ p.k.g.bF+1)).2.2))
 else ({p with k:=(p.k.sy 2 (f_ p.k.g.bF+1)).1,m:={p.m with dI:=p.m.dI.xB (f_ p.k.g.bF+1) r.id r.table r.iH}},(3,0))
def ky.Bc(p:ky)(x:iI × Int):ky × (Int × Int):=match As p.m.reqs x.2 with
 | none=>({p with d:=x.1},(0,0))
 | some r=>({p with d:=x.1}:ky).F_ r
def ky.F'(p:ky):ky × (Int × Int):=p.Bc (rB p.d p.m.reqs).next
def ky.FB(p:ky):ky × (Int × Int):=
 let y:=p.k.sy 3 p.m.dI.mark
 if y.2.2≠0 then ({p with k:=y.1},(0,y.2.2)) else ({p with k:=y.1,m:={p.m with dI:=p.m.dI.shut}},(5,0))
def ky.step(p:ky):ky × (Int × Int):=
 if Gs p.m=false then (p,(0,0))
 else if p.m.dI.state=0 then p.F'
 else if p.m.dI.state=1 then ({p with m:={p.m with dI:=p.m.dI.fill (p.k.BL p.m.dI.table p.m.dI.after p.n)}},(4,0))
 else p.FB
section
variable {lo hi:Int} {A B:List PF} {d:DS}
def sH.mono{pf Ci:Int}{g:ib}(h:sH lo hi g)(h1:pf<=lo)(h2:hi<=Ci):sH pf Ci g:=⟨by have:=h.b0;omega,by have:=h.b1;omega,h.bF,h.iC⟩
def Laid.UY{g:ib}{d:DS}{f n:Int}{es:List (Δ)}(h:Laid g d f n es):sH g.base (g.base+4096) g:=by
 have hle:=h.chain.wA;rw[h.lG]at hle
 have xh:=h.fi;have hba:=h.base;refine⟨yyc _,yyc _,λs hs=>?_,λx hx=>by rw[h.iC]at hx;cases hx⟩;have:=h.chain.wT.mem (x:=jF s) (vv4 hs);rw[zzs]at this
 have h1:(jF s).id=s.file:=rfl;omega
def gwm{g:ib}(hg:sH lo hi g)(h:iO lo hi A B d.R)(p:Δ)(k:Int):lz g (ix A B d) p k=(((lz g d p k).1.1,ix A B (lz g d p k).1.2),(lz g d p k).2)/\iO lo hi A B (lz g d p k).1.2.R/\sH lo hi (lz g d p k).1.1:=by
 unfold lz;split
 ·exact⟨rfl,h,hg⟩
 rw[show (ix A B d).off=d.off from rfl];cases hp:jQ g d.off p with
 | error e=>exact⟨rfl,h,hg⟩
 | ok x=>
  have hx:=Z' hg hp;have h1:=hg.b0;have h2:=hg.b1;obtain⟨em,hm,uQ⟩:=Xx hg h;simp only;rw[em];simp only;split
  ·exact⟨rfl,hm,uQ⟩
  obtain⟨ea,ha⟩:=Ir hm (f:=x.file) (by omega) (by omega) (x.b.take (k.toNat % x.b.length));rw[ea];simp only;split
  ·exact⟨rfl,ha,uQ⟩
  have x_:(iq g d).1.1.base=g.base:=(xz g d).2.1;refine⟨rfl,ha,uQ.b0,uQ.b1,uQ.bF,λy hy=>?_⟩;cases hy;show (iq g d).1.1.base<=_/\_<(iq g d).1.1.base+4096;rw[x_];exact hx
end
def gF.ka(A:List PF)(k:gF):gF:={k with d:=ix A [] k.d}
structure vN(A:List PF)(k:gF):Prop where
 w:iO 8192 12288 A [] k.d.R
 g:sH 8192 12288 k.g
def aIi{A:List PF}{k:gF}(h:vN A k)(x:eF)(L:List Rq):(k.ka A).lE x L=((k.lE x L).1.ka A,(k.lE x L).2)/\vN A (k.lE x L).1:=by
 obtain⟨e,h1,h2⟩:=JS h.g h.w (lu x);unfold gF.lE gF.ka;simp only[e];split
 ·exact⟨rfl,h1,h2⟩
 exact⟨rfl,h1,h2⟩
def gwo{A:List PF}{k:gF}(h:vN A k)(x:eF)(n:Int):(k.ka A).oI x n=((k.oI x n).1.ka A,(k.oI x n).2)/\vN A (k.oI x n).1:=by
 obtain⟨e,h1,h2⟩:=gwm h.g h.w (lu x) n;have e1:(k.ka A).oI x n=(λr:(ib × DS) × Int=>(({k with g:=r.1.1,d:=r.1.2}:gF),r.2)) (lz k.g (ix A [] k.d) (lu x) n):=rfl;rw[e1,e];exact⟨rfl,⟨h1,h2⟩⟩
def bF1{A:List PF}{k:gF}(h:vN A k)(x:eF):(k.ka A).kR x=((k.kR x).1.ka A,(k.kR x).2)/\vN A (k.kR x).1:=by
 unfold gF.kR;show (if jE x=false\/(k.aw<x.aw/\k9 k.ts.length k.reqs x=none) then (k.ka A,(1:Int)) else if k.d.off=true then (k.ka A,8) else _)=_/\_;split
 ·exact⟨rfl,h⟩
 split
 ·exact⟨rfl,h⟩
 show (match k.plan with
  | []=>if k.aw<x.aw then (k.ka A).lE x _ else (k.ka A,(0:Int))
  | f::r=>_)=_/\_
 simp only;cases hp:k.plan with
 | nil=>
  simp only;split
  ·exact aIi h x _
  exact⟨rfl,h⟩
 | cons f r=>
  simp only;have h':vN A {k with plan:=r}:=⟨h.w,h.g⟩;obtain⟨w1,w2⟩:=aIi h' x ((k9 k.ts.length k.reqs x).getD []);obtain⟨t1,t2⟩:=gwo h' x f.keep;have w1:gF.lE {k.ka A with plan:=r} x ((k9 k.ts.length k.reqs x).getD [])=_:=w1;have t1:gF.oI {k.ka A with plan:=r} x f.keep=_:=t1;simp only[show (gF.ka A k).aw=k.aw from rfl];split
  ·split
   ·exact⟨yyu (λr:gF × Int=>(r.1,if r.2=0 then (9:Int) else r.2)) w1,w2⟩
   exact⟨rfl,h'⟩
  split
  ·exact⟨yyu (λr:gF × Int=>(r.1,if r.2=0 then (9:Int) else r.2)) t1,t2⟩
  exact⟨rfl,h'⟩
def fw7{A:List PF}{d:DS}(h:iO 8192 12288 A [] d.R)(gw size:Int):oX (ix A [] d) gw size=(ix A [] (oX d gw size).1,(oX d gw size).2.map (gF.ka A)):=by
 unfold oX;split
 ·rfl
 obtain⟨e,_⟩:=D' (base:=8192) (size:=size) h;rw[e];cases jX d 8192 size with
 | mk d' r=>
  cases r with
  | error e=>rfl
  | ok g=>
   simp only;split
   ·rfl
   split
   ·rfl
   rfl
def g_.ka(B:List PF)(k:g_):g_:={k with d:=ix [] B k.d}
structure xH(B:List PF)(k:g_):Prop where
 w:iO 0 8192 [] B k.d.R
 g:sH 0 8192 k.g
def a_p{B:List PF}{k:g_}(h:xH B k)(t:fF):(k.ka B).lK t=((k.lK t).1.ka B,(k.lK t).2)/\xH B (k.lK t).1:=by
 obtain⟨e,h1,h2⟩:=JS h.g h.w (lB {t with aw:=f_ k.g.bF+1});unfold g_.lK g_.ka;simp only;rw[show (ix [] B k.d).off=k.d.off from rfl];split
 ·exact⟨rfl,h⟩
 split
 ·exact⟨rfl,h⟩
 simp only[e];split
 ·exact⟨rfl,h1,h2⟩
 exact⟨rfl,h1,h2⟩
def bR5{lo hi:Int}{A B:List PF}{d:DS}(h:iO lo hi A B d.R){f:Int}(h1:lo<=f)(h2:f<hi)(b:Δ):iO lo hi A B (pa d f b).1.R:=by
 unfold pa;have hc:iO lo hi A B (if 0<=lH d.R f then d.cut f 0 else (d,0)).1.R:=by
  split
  ·exact (Is h h1 h2 0).2
  exact h
 generalize (if 0<=lH d.R f then d.cut f 0 else (d,0))=c at *
 simp only;split
 ·exact hc
 have ha:=(Ir hc h1 h2 b).2;split
 ·exact ha
 exact (LO ha h1 h2).2
def bR8{B:List PF}{k:g_}(h:xH B k):(k.ka B).mS=(k.mS.1.ka B,k.mS.2)/\xH B k.mS.1:=by
 have ho:0<=nE k/\nE k<8192:=by unfold nE;split<;>omega
 have e:=Uo h.w ho.1 ho.2 (ij (nk (f_ k.g.bF) k.ts));have hr:=bR5 h.w ho.1 ho.2 (ij (nk (f_ k.g.bF) k.ts));unfold g_.mS;rw[show nE (k.ka B)=nE k from rfl,show (k.ka B).g=k.g from rfl,show (k.ka B).ts=k.ts from rfl,show (k.ka B).d=ix [] B k.d from rfl];simp only[e];split
 ·exact⟨rfl,hr,h.g⟩
 exact⟨rfl,hr,h.g⟩
def gw0{B:List PF}{k:g_}(h:xH B k)(aw:Int):(k.ka B).mG aw=((k.mG aw).1.ka B,(k.mG aw).2)/\xH B (k.mG aw).1:=by
 unfold g_.mG;rw[show (k.ka B).g=k.g from rfl,show (k.ka B).d.off=k.d.off from rfl,show (k.ka B).image=k.image from rfl];split
 ·exact⟨rfl,h⟩
 split
 ·exact⟨rfl,h⟩
 have hr:∃r:g_ × Int,(if k.image<aw then k.mS else (k,0))=r/\(if k.image<aw then (k.ka B).mS else (k.ka B,0))=(r.1.ka B,r.2)/\xH B r.1:=by
  refine⟨_,rfl,?_⟩;split
  ·exact bR8 h
  exact⟨rfl,h⟩
 obtain⟨r,e1,e2,h1⟩:=hr;rw[e1,e2];simp only;split
 ·exact⟨rfl,h1⟩
 obtain⟨e,h2,h3⟩:=aFq h1.g h1.w aw;rw[show (r.1.ka B).g=r.1.g from rfl,show (r.1.ka B).d=ix [] B r.1.d from rfl,e];exact⟨rfl,h2,h3⟩
def eFl{lo hi:Int}{A B M:List PF}(h:iO lo hi A B M){n:Nat}{f:Int}(h1:lo<=f)(h2:f<hi):mE (A++M++B) n f=mE M n f:=by
 unfold mE;rw[h.get h1 h2]
def fw9{I B:List PF}{d0:DS}(h:iO 16 4112 I [] d0.R)(hI:∀x∈I,0<=x.id)(hB:∀x∈B,8192<=x.id)(gw size:Int):
  pG (ix I B d0) gw size=(ix [] B (pG (ix I [] d0) gw size).1,(pG (ix I [] d0) gw size).2.map (g_.ka B)):=by
 have hj:∀d:DS,ix I B d=ix [] B (ix I [] d):=λd=>by unfold ix;simp
 unfold pG;split
 ·rw[hj];rfl
 have h':iO 16 (16+4096) I B d0.R:=⟨h.a,h.m,λx hx=>by have:=hB x hx;omega⟩;obtain⟨e1,w1⟩:=D' (base:=16) (size:=size) h';obtain⟨e2,w2⟩:=D' (base:=16) (size:=size) (B:=[]) (A:=I) (d:=d0) h;rw[e1,e2];cases hg:jX d0 16 size with
 | mk d' r=>
  rw[hg]at w1 w2
  cases r with
  | error e=>simp only;rw[hj];rfl
  | ok g=>
   have hw:iO 0 8192 [] B (I++d'.R):=⟨λx hx=>by (cases hx),λx hx=>by
    rcases zz0.1 hx with hx|hx
    ·have:=hI x hx;have:=h.a x hx;omega
    have:=w2.m x hx;omega,hB⟩
   have hl:pE (ix I B d').R gw.toNat=pE (ix I [] d').R gw.toNat:=by
    have hg:∀f:Int,0<=f->f<8192->mE (I++d'.R++B) gw.toNat f=mE (I++d'.R++[]) gw.toNat f:=λf h0 h1=>by
     have:=eFl hw (n:=gw.toNat) h0 h1;rw[zzp]at this
     rw[this,zzw]
    show pE (I++d'.R++B) gw.toNat=pE (I++d'.R++[]) gw.toNat;unfold pE lC;rw[hg 0 (by decide) (by decide),hg 1 (by decide) (by decide)]
   simp only;rw[hl];cases tG gw.toNat (pE (ix I [] d').R gw.toNat).2.1 (gR g.bF) (j7 g.bF) (pE (ix I [] d').R gw.toNat).2.2 with
   | none=>simp only;rw[hj];rfl
   | some ts=>
    simp only;split
    ·rw[hj];rfl
    rw[hj];rfl
structure rG(n:Nat)(all:List fF):Prop where
 ok:wP n all
 len:all.length<=1000
 row:∀j,∀C∈kF n (all.take j),C.length<=1000
def rG.nil(n:Nat):rG n []:=⟨(s8.nil n).ok,by decide,λj=>by rw[List.take_nil];exact (s8.nil n).row⟩
def wP.take{n:Nat}{all:List fF}(h:wP n all)(j:Nat):wP n (all.take j):=
 ⟨λt ht=>h.may t (yyn ht),λi hi=>by rw[uuj];exact h.aw i _,λt ht=>h.ch t (yyn ht)⟩
def rG.take{n:Nat}{all:List fF}(h:rG n all)(j:Nat):rG n (all.take j):=
 ⟨h.ok.take j,by rw[zzf];have:=h.len;omega,λi=>by rw[ttj];exact h.row _⟩
def rG.CH{n:Nat}{all:List fF}(h:rG n all)(n1:1<=n)(n8:n<=8):C3 n all:=λj hj=>by
 have ht:=h.take j;have hr:=M0 ht.ok.may ht.ok.ch;have hl:=h.len;exact wC.2 ⟨⟨by omega,by omega,by rw[u9];exact n1,by rw[u9];exact n8⟩,λC hC=>⟨(hr C hC).sorted,(hr C hC).rows,h.row j C hC⟩⟩
def rG.sD{n:Nat}{all:List fF}(h:rG n all):(∀C∈kF n all,sM C)/\∀C∈kF n all,C.length<=1000:=
 ⟨M0 h.ok.may h.ok.ch,λC hC=>h.row all.length C (by rw[zz1];exact hC)⟩
def rG.app{n:Nat}{all:List fF}(h:rG n all){t:fF}(hm:jC t=true)(hl:t.aw=(all.length:Int)+1)(hc:∀c∈t.changes,mf n c=true)(h1:all.length+1<=1000)(hf:rL (kF n all) t.changes=true):rG n (all++[t]):=by
 refine⟨⟨λx hx=>?_,λi hi=>?_,λx hx=>?_⟩,by rw[zza];exact h1,λj C hC=>?_⟩
 ·rcases zz0.1 hx with hx|hx
  ·exact h.ok.may x hx
  rw[zz3.1 hx];exact hm
 ·rw[List.getElem_append];split
  ·exact h.ok.aw i _
  rename_i hn;rw[zza,zz6]at hi
  simp only[List.getElem_singleton];rw[hl];omega
 ·rcases zz0.1 hx with hx|hx
  ·exact h.ok.ch x hx
  rw[zz3.1 hx];exact hc
 rcases xxv all.length j with hj|hj
 ·rw[zz2 (by rw[zza,zz6];omega),<- Je hc]at hC
  unfold rL at hf;rw[zz9,zz5,zz5]at hf
  exact zzl (hf.2 C hC)
 rw[yy9 hj]at hC
 exact h.row j C hC
abbrev tL(t:fF)(n:Nat):fF:=⟨(n:Int)+1,t.kind,t.changes,t.signals,t.mark⟩
def eW5{t:fF}(h:jC t=true){n:Nat}(hn:n<=1000):jC (tL t n)=true:=by
 obtain⟨_,h2⟩:=Bd.1 h;exact Bd.2 ⟨⟨by show 1<=(n:Int)+1;omega,by show (n:Int)+1<=_;omega⟩,h2⟩
def mX.add{n:Nat}{k:g_}{all:List fF}{tr:Nat}{I:List PF}{d0:DS}{f:Int}{lo m:Nat}(h:mX n k all tr I d0 f lo m)(ho:k.d.off=false)(ha:0<=k.d.arm)(hlen:all.length<=1000){t:fF}
  (hm:jC (tL t all.length)=true) (hc:∀c∈t.changes,mf n c=true) (hf:rL (kF n all) t.changes=true) :
  (∃k' d1,k.lK t=(k',((all.length:Int)+1,0))/\mX n k' (all++[tL t all.length]) tr I d1 f lo m/\k'.d.off=false/\0<=k'.d.arm/\(k.d.arm=0->k'.d.arm=0)/\k'.d.ops<=k.d.ops+2) \/
  (∃k' d1,k.lK t=(k',(0,8))/\k'.d.off=true/\k.d.arm≠0/\k'.d.ops<=k.d.ops+2/\k'.ts=k.ts/\wO n k'.d all (some (tL t all.length)) tr I I d1 k.g f lo m k.iZ):=by
 have rO:=h.head ho;have hd:=h.vk;have mT:d0.off=false:=by rw[hd]at ho;exact ho
 have we:0<=d0.arm:=by rw[hd]at ha;exact ha
 have hl:=h.log.inv mT;have Cm:=h.Ao;have rQ:=h.pe.le;have Fy:=h.file;have hb:=h.base;have l9:=h.ts;have uN:=b_4 hm;have xf:=Tn hl (p:=lB (tL t all.length)) (by omega) (by rw[zzs,zzq];omega) (by rw[zzs,zzq,hb];omega) we;obtain⟨ew,hw,_⟩:=JS (A:=I) (B:=[]) (d:=d0) (h.log.Kv hb) h.dI (lB (tL t all.length));have pO:k.lK t=(let r:=ki k.g k.d (lB (tL t all.length));if r.2.2=0 then ({k with g:=r.1.1,d:=r.1.2,ts:=kZ k.ts t.changes},((all.length:Int)+1,0)) else ({k with g:=r.1.1,d:=r.1.2},(0,r.2.2))):=by
  unfold g_.lK;rw[zzb (by simp[ho]),zzb (by rw[l9,hf,rO];simp;omega),rO]
 rw[pO,hd,ew];have AZ:(all.drop lo).map lB++[lB (tL t all.length)]=((all++[tL t all.length]).drop lo).map lB:=by
  rw[xxa (by omega),zzt];rfl
 rcases xf with ⟨g',d',e,hv,iY,x',xd,x_,Wb,sq,_,_⟩|⟨d',e,hT,Li,iY,xd,Ab⟩
 ·left;rw[e]at hw ⊢
  simp only at hw ⊢;rw[zzc trivial];rw[AZ]at hv
  refine⟨_,d',rfl,⟨rfl,hw,hv.laid,x_.trans hb,h.pe.mono _,h.image,Cm,h.wB,?_,Fy⟩,hv.off,x',xd,by show d'.ops<=d0.ops+2;omega⟩;show kZ k.ts t.changes=_;rw[l9,Je (t:=tL t all.length) hc]
 right;rw[e]at hw ⊢
 simp only at hw ⊢;rw[zzb (by decide)];refine⟨_,d',rfl,Li,xd,by show d'.ops<=d0.ops+2;omega,rfl,rfl,hw,.inr ⟨_,true,hT,λ_=>⟨_,rfl,rfl⟩⟩,hb,by have:=h.log.base;omega,Fy,λee=>?_,h.pe,.inl rfl,Cm,h.wB⟩;rcases lI.Dk h.log ee with h1|⟨h1,_⟩
 ·exact .inl (by omega)
 exact .inr (Ab ee h1)
def mX.GA{n:Nat}{k:g_}{all:List fF}{tr:Nat}{I:List PF}{d0:DS}{f:Int}{lo m:Nat}(h:mX n k all tr I d0 f lo m){B:List PF}(hB:∀x∈B,8192<=x.id):xH B k:=by
 refine⟨⟨λx hx=>(by cases hx),λx hx=>?_,hB⟩,(h.log.Kv h.base).mono (by decide) (by decide)⟩;rw[h.vk]at hx
 have hx:x∈I++d0.R++[]:=hx;rw[zzw]at hx
 rcases zz0.1 hx with hx|hx
 ·rcases h.pe.ids x hx with e|e<;>omega
 have:=h.dI.m x hx;omega
structure KV(n tr N:Nat)(AL:List fF)(k:g_):Prop where
 re:rG n AL
 live:∃I d0 f lo m,mX n k AL tr I d0 f lo m
 off:k.d.off=false
 arm:0<=k.d.arm
 ok:nF k N
structure KD(n tr N:Nat)(AL:List fF)(t:Option fF)(d:DS):Prop where
 re:rG n (AL++t.toList)
 dead:∃I I' d0 g f lo m nw,wO n d AL t tr I I' d0 g f lo m nw
 ok:d.Ok N
def KV.mono{n tr N M:Nat}{AL:List fF}{k:g_}(h:KV n tr N AL k)(hM:N<=M):KV n tr M AL k:=⟨h.re,h.live,h.off,h.arm,h.ok.mono hM⟩
def KD.mono{n tr N M:Nat}{AL:List fF}{t:Option fF}{d:DS}(h:KD n tr N AL t d)(hM:N<=M):KD n tr M AL t d:=⟨h.re,h.dead,h.ok.mono hM⟩
def KV.dead{n tr N:Nat}{AL:List fF}{k:g_}(h:KV n tr N AL k):KD n tr N AL none k.d:=by
 obtain⟨I,d0,f,lo,m,hL⟩:=h.live;exact⟨by rw[show AL++(none:Option fF).toList=AL from zzw AL];exact h.re,⟨I,I,d0,k.g,f,lo,m,k.iZ,hL.dead hL.Dk none⟩,h.ok.d⟩
def KV.GA{n tr N:Nat}{AL:List fF}{k:g_}(h:KV n tr N AL k){B:List PF}(hB:∀x∈B,8192<=x.id):xH B k:=by
 obtain⟨I,d0,f,lo,m,hL⟩:=h.live;exact hL.GA hB
def KV.head{n tr N:Nat}{AL:List fF}{k:g_}(h:KV n tr N AL k):f_ k.g.bF=AL.length:=by
 obtain⟨I,d0,f,lo,m,hL⟩:=h.live;exact hL.head h.off
def KV.ts{n tr N:Nat}{AL:List fF}{k:g_}(h:KV n tr N AL k):k.ts=kF n AL:=by
 obtain⟨I,d0,f,lo,m,hL⟩:=h.live;exact hL.ts
def KV.read{n tr N:Nat}{AL:List fF}{k:g_}(h:KV n tr N AL k){j:Nat}(h1:tr<=j)(h2:j<AL.length):k.mF ((j:Int)+1)= .ok AL[j]:=by
 obtain⟨I,d0,f,lo,m,hL⟩:=h.live;have:=hL.wB;exact hL.read h.re.ok.may (by omega) h2
def KV.add{n tr N:Nat}{AL:List fF}{k:g_}(h:KV n tr N AL k)(hl:AL.length+1<=1000){t:fF}(hm:jC t=true)(hc:∀c∈t.changes,mf n c=true):
  (∃k',k.lK t=(k',((AL.length:Int)+1,0))/\KV n tr (N+2000) (AL++[tL t AL.length]) k'/\(k.d.arm=0->k'.d.arm=0)/\k'.d.ops<=k.d.ops+2) \/
  (∃k',k.lK t=(k',(0,8))/\k'.d.off=true/\KD n tr (N+2000) AL (some (tL t AL.length)) k'.d/\k.d.arm≠0/\k'.d.ops<=k.d.ops+2) \/
  (k.lK t=(k,(0,7))/\rL (kF n AL) t.changes=false):=by
 obtain⟨I,d0,f,lo,m,hL⟩:=h.live;have kA:=eW5 hm (n:=AL.length) (by omega);cases hf:rL (kF n AL) t.changes with
 | false=>
  refine .inr (.inr ⟨?_,rfl⟩);unfold g_.lK;rw[zzb (by rw[h.off];decide),zzc (.inl (by rw[hL.ts];exact hf))]
 | true=>
  have hT:=h.re.app kA rfl hc hl hf;have eW:=h.ok.add hm;rcases hL.add h.off h.arm (by omega) kA hc hf with ⟨k',d1,e,l1,o1,a1,a0,p1⟩|⟨k',d1,e,o1,a0,p1,t1,hD⟩
  ·rw[e]at eW
   exact .inl ⟨k',e,⟨hT,⟨I,d1,f,lo,m,l1⟩,o1,a1,eW⟩,a0,p1⟩
  rw[e]at eW
  exact .inr (.inl ⟨k',e,o1,⟨hT,⟨I,I,d1,k.g,f,lo,m,k.iZ,hD⟩,eW.d⟩,a0,p1⟩)
def KV.trim{n tr N:Nat}{AL:List fF}{k:g_}(h:KV n tr N AL k)(n1:1<=n)(n8:n<=8){aw:Nat}(hl:aw<=AL.length):
  (∃k',k.mG aw=(k',0)/\KV n (max tr aw) (N+400000) AL k'/\(k.d.arm=0->k'.d.arm=0)/\k'.d.ops<=k.d.ops+(AL.length+5)) \/
  (∃k' e,k.mG aw=(k',e)/\e≠0/\k'.d.off=true/\KD n (max tr aw) (N+400000) AL none k'.d/\k.d.arm≠0/\k'.d.ops<=k.d.ops+(AL.length+5)):=by
 obtain⟨I,d0,f,lo,m,hL⟩:=h.live;have eW:=h.ok.trim (aw:Int);rcases hL.trim h.off h.arm h.re.len (h.re.CH n1 n8) hl with ⟨k',I',d1,f',pf,m',e,hm',hL',o1,a1,a2,p1,z1⟩|⟨k',e',I1,I',d1,g1,f',pf,m',nw,e,he,o1,a0,p1,hD⟩
 ·rw[e]at eW
  exact .inl ⟨k',e,⟨h.re,⟨I',d1,f',pf,m',hL'⟩,o1,a1,eW⟩,λha=>by omega,p1⟩
 rw[e]at eW
 exact .inr ⟨k',e',e,he,o1,⟨by rw[show AL++(none:Option fF).toList=AL from zzw AL];exact h.re,⟨I1,I',d1,g1,f',pf,m',nw,hD⟩,eW.d⟩,a0,p1⟩
def KD.open{n tr N:Nat}{AL:List fF}{t:Option fF}{d:DS}(h:KD n tr N AL t d)(n1:1<=n)(n8:n<=8)(keep:Ξ){size:Int}(s0:64<=size)(s1:size<=65536){B:List PF}(hB:∀x∈B,8192<=x.id):
  ∃k' kf,pG (ix [] B (d.jO keep)) n size=(ix [] B k'.d,.ok (k'.ka B))/\KV n tr (N+200000) kf k'/\k'.d.arm=0/\k'.d.ops<=d.ops+1/\(kf=AL\/∃x,t=some x/\kf=AL++[x]) /\
   (∀d' g,jX (ix [] B (d.jO keep)) 16 size=(d',.ok g)->(gR g.bF).length<=1001):=by
 obtain⟨I,I',d0,g,f,lo,m,nw,hD⟩:=h.dead;have uT:∀l,l=[]\/(∃x,t=some x/\l=[x])->rG n (AL++l):=λl hl=>by
  rcases hl with rfl|⟨x,rfl,rfl⟩
  ·rw[zzw];have:=h.re.take AL.length
   rwa [wwo]at this
  exact h.re
 have KB:=uT [] (.inl rfl);rw[zzw]at KB
 obtain⟨k',ta,I2,d2,f2,m2,e,hL,o1,a1,p1,ha⟩:=hD.open n1 n8 keep (λl hl=>⟨(uT l hl).ok,(uT l hl).CH n1 n8⟩) KB.len s0 s1;have hT:rG n ta:=by
  rcases ha with rfl|⟨x,hx,rfl⟩
  ·exact KB
  exact uT [x] (.inr ⟨x,hx,rfl⟩)
 have rN:=h.ok.jO keep;have hg:=X3 e;have uO:∃J d3,d.jO keep=ix J [] d3/\iO 16 4112 J [] d3.R/\∀x∈J,0<=x.id:=by
  refine⟨jV I' keep,d0.jO (keep.drop I'.length),by rw[hD.vk,WB],hD.dI.jO keep _ [],λx hx=>?_⟩;obtain⟨y,hy,ey⟩:=Gf hx;have:=h.ok.ids y (by rw[hD.vk];show y∈I'++d0.R++[];simp[hy]);omega
 obtain⟨J,d3,e3,w3,j3⟩:=uO;have KC:=fw9 w3 j3 hB (n:Int) size;rw[<- e3,e]at KC
 have hj:∀d:DS,ix J B d=ix [] B (ix J [] d):=λd=>by unfold ix;simp
 rw[hj,<- e3]at KC
 refine⟨k',ta,KC,⟨hT,⟨I2,d2,f2,lo,m2,hL⟩,o1,by rw[a1];exact yyc _,?_⟩,a1,p1,ha,?_⟩
 ·have HT:=Mn rN (by have:=rN.Gt;omega) hg;have HL:=IH (base:=16) (size:=size) rN;rw[hg]at HL
  exact⟨HT.mono (by omega),HL.mono (by omega),by rw[hL.ts];exact hT.sD.1,by rw[hL.ts];exact hT.sD.2,by rw[hL.ts,u9];exact n1,by rw[hL.ts,u9];exact n8⟩
 intro d' g' Cf;have CF:iO 16 (16+4096) J B d3.R:=⟨w3.a,w3.m,λx hx=>by have:=hB x hx;omega⟩;obtain⟨e4,_⟩:=D' (base:=16) (size:=size) CF;obtain⟨e5,_⟩:=D' (base:=16) (size:=size) w3;rw[e3,<- hj]at Cf
 rw[e3,e5]at hg
 rw[e4]at Cf
 have h1:=yyu Prod.snd hg;have h2:=yyu Prod.snd Cf;simp only at h1 h2;rw[h1]at h2
 cases h2;rw[hL.log.lG,zzs,zzq];have:=hT.len;omega
def lI.wd{g:ib}{d d':DS}{f n:Int}{es:List (Δ)}(h:lI g d f n es)(hR:d'.R=d.R)(ho:d'.off=false):lI g d' f n es:=(h.laid.wK hR).inv ho
def fRu(d:DS)(f:Int)(p:Nat):∃i,(d.remove f).1.ops=d.ops+i/\({d with ops:=p}:DS).remove f=({(d.remove f).1 with ops:=p+i},(d.remove f).2):=by
 unfold DS.remove;rw[show ({d with ops:=p}:DS).find f=d.find f from rfl,show ({d with ops:=p}:DS).eI.off=d.eI.off from rfl];split
 ·exact⟨0,rfl,rfl⟩
 split
 ·exact⟨1,rfl,rfl⟩
 exact⟨1,rfl,rfl⟩
def bIe(d:DS)(f n:Int)(p:Nat):∃i,(d.cut f n).1.ops=d.ops+i/\({d with ops:=p}:DS).cut f n=({(d.cut f n).1 with ops:=p+i},(d.cut f n).2):=by
 unfold DS.cut;rw[show ({d with ops:=p}:DS).find f=d.find f from rfl,show ({d with ops:=p}:DS).eI.off=d.eI.off from rfl];split
 ·exact⟨0,rfl,rfl⟩
 split
 ·exact⟨0,rfl,rfl⟩
 split
 ·exact⟨1,rfl,rfl⟩
 exact⟨1,rfl,rfl⟩
def Xv(g:ib)(d:DS)(p:Nat):∃i,(iq g d).1.2.ops=d.ops+i/\iq g {d with ops:=p}=(((iq g d).1.1,{(iq g d).1.2 with ops:=p+i}),(iq g d).2):=by
 unfold iq;cases g.iC with
 | none=>exact⟨0,rfl,rfl⟩
 | some x=>
  simp only;split
  ·obtain⟨i,e1,e2⟩:=fRu d x.file p;exact⟨i,e1,by rw[e2]⟩
  obtain⟨i,e1,e2⟩:=bIe d x.file x.tu p;exact⟨i,e1,by rw[e2]⟩
def EN.wo{g:ib}{d:DS}{f n:Int}{es:List (Δ)}{q:Δ}(h:EN g d f n es q)(a:Int)(p:Nat):EN g {d with arm:=a,ops:=p} f n es q:=by
 refine⟨h.off,h.iC.wK rfl,λb hb xg=>?_,?_⟩
 ·obtain⟨g2,d2,e,l2,a1,a2,a3,a4⟩:=h.m2 b hb xg;obtain⟨i,e1,e2⟩:=Xv g {d with arm:=b} p;rw[e]at e1 e2
  have e1:d2.ops=d.ops+i:=e1;exact⟨g2,{d2 with ops:=p+i},e2,l2.wd rfl l2.off,a1,a2,by show p+i=p+1;omega,a4⟩
 obtain⟨d2,e,r1,r2,r3⟩:=h.m1;obtain⟨i,e1,e2⟩:=Xv g {d with arm:=1} p;rw[e]at e1 e2
 have e1:d2.ops=d.ops+i:=e1;exact⟨{d2 with ops:=p+i},e2,r1,r2,by show p+i=p+1;omega⟩
def St.wo{g:ib}{d:DS}{es:List (Δ)}{m:Option (Δ)}(h:St g d es m)(a:Int)(p:Nat):St g {d with arm:=a,ops:=p} es m:=by
 rcases h with ⟨h1,h2⟩|⟨⟨q,h1⟩,h2⟩|⟨h1,q,w,h2,h3⟩
 ·exact .inl ⟨h1.wd rfl h1.off,h2⟩
 ·exact .inr (.inl ⟨⟨q,h1.wo a p⟩,h2⟩)
 exact .inr (.inr ⟨h1,q,w,h2.wK rfl,h3⟩)
def mW.wd{n:Nat}{k:gF}{xs:List eF}{m:Option eF}(h:mW n k xs m){d':DS}(hR:d'.R=k.d.R)(ho:d'.off=k.d.off):mW n {k with d:=d'} xs m:=by
 have e:d'={k.d with arm:=d'.arm,ops:=d'.ops}:=by
  cases d';simp only at hR ho;subst hR ho;rfl
 rw[e];exact⟨h.st.wo _ _,h.may,h.run,h.len,h.Nd⟩
def mX.wd{n:Nat}{k:g_}{all:List fF}{tr:Nat}{I:List PF}{d0:DS}{f:Int}{lo m:Nat}(h:mX n k all tr I d0 f lo m){d':DS}(hR:d'.R=k.d.R):mX n {k with d:=d'} all tr I {d' with R:=d0.R} f lo m:=by
 have e:d'.R=I++d0.R++[]:=by rw[hR,h.vk];rfl
 refine⟨?_,h.dI,h.log.wK rfl,h.base,h.pe,h.image,h.Ao,h.wB,h.ts,h.file⟩;cases d';simp only at e;subst e;rfl
def wO.wd{n:Nat}{d:DS}{all:List fF}{t:Option fF}{tr:Nat}{I I':List PF}{d0:DS}{g:ib}{f:Int}{lo m:Nat}{nw:Int}(h:wO n d all t tr I I' d0 g f lo m nw){d':DS}(hR:d'.R=d.R):wO n d' all t tr I I' {d' with R:=d0.R} g f lo m nw:=by
 have e:d'.R=I'++d0.R++[]:=by rw[hR,h.vk];rfl
 refine⟨?_,h.dI,?_,h.base,h.f16,h.file,h.empty,h.pe,h.CH,h.Ao,h.wB⟩
 ·cases d';simp only at e;subst e;rfl
 rcases h.log with hl|⟨q,w,hT,hw⟩
 ·exact .inl (hl.wK rfl)
 exact .inr ⟨q,w,hT.wK rfl,hw⟩
def DS.Ok.wd{d d':DS}{N:Nat}(h:d.Ok N)(hR:d'.R=d.R)(a0:0<=d'.arm)(a1:d'.arm<=9223372036854775807):d'.Ok N:=⟨by rw[hR];exact h.sorted,by rw[hR];exact h.ids,by rw[hR];exact h.safe,by rw[hR];exact h.len,a0,a1⟩
def KV.wd{n tr N:Nat}{AL:List fF}{k:g_}(h:KV n tr N AL k){d':DS}(hR:d'.R=k.d.R)(ho:d'.off=false)(a0:0<=d'.arm)(a1:d'.arm<=9223372036854775807):KV n tr N AL {k with d:=d'}:=by
 obtain⟨I,d0,f,lo,m,hL⟩:=h.live;exact⟨h.re,⟨I,_,f,lo,m,hL.wd hR⟩,ho,a0,⟨h.ok.g,h.ok.d.wd hR a0 a1,h.ok.rows,h.ok.len,h.ok.n1,h.ok.n8⟩⟩
def KD.wd{n tr N:Nat}{AL:List fF}{t:Option fF}{d d':DS}(h:KD n tr N AL t d)(hR:d'.R=d.R)(a0:0<=d'.arm)(a1:d'.arm<=9223372036854775807):KD n tr N AL t d':=by
 obtain⟨I,I',d0,g,f,lo,m,nw,hD⟩:=h.dead;exact⟨h.re,⟨I,I',_,g,f,lo,m,nw,hD.wd hR⟩,h.ok.wd hR a0 a1⟩
def Gi:∀(A B:List mn) (L:List Rq),kW L (A++B)=(kW L A).bind λL'=>kW L' B
 | [],B,L=>rfl
 | n::A,B,L=>by
  rw[zzu];simp only[kW];cases tD L n with
  | none=>rfl
  | some L'=>exact Gi A B L'
def fwa{A B:List mn}{L R:List Rq}(h:kW L (A++B)=some R):∃L',kW L A=some L'/\kW L' B=some R:=by
 rw[Gi]at h
 cases hA:kW L A with
 | none=>rw[hA]at h;cases h
 | some L'=>rw[hA]at h;exact⟨L',rfl,h⟩
structure Jj(n:Nat)(k k':gF)(xs:List eF)(x:eF)(L:List Rq)(e:Int):Prop where
 ops:k'.d.ops<=k.d.ops+3
 plan:∀f∈k'.plan,f∈k.plan
 pl:k'.plan.length<=k.plan.length
 arm:k.d.arm=0->k'.d.arm=0
 res:(e=0/\k'.d.off=false/\(∃ik,mW n k' ik none/\ik.length<=xs.length+1)/\((k.aw<x.aw/\k'.tr=((ks k.ts x.ops).1,L,x.aw))\/(¬k.aw<x.aw/\k'.tr=k.tr))) \/
  (e=9/\k'.d.off=false/\(∃ik,mW n k' ik none/\ik.length<=xs.length+1)/\((k.aw<x.aw/\k'.tr=((ks k.ts x.ops).1,L,x.aw))\/k'.tr=k.tr)) \/
  (e=8/\k'.d.off=true/\k.d.arm≠0/\(∃m',mW n k' xs m'/\∀y,m'=some y->y=x/\k.aw<x.aw)/\k'.tr=k.tr)
def bFy{n:Nat}{k:gF}{xs:List eF}(h:mW n k xs none)(ha:0<=k.d.arm)(ho:k.d.off=false)(hl:xs.length<=900)(jz:∀f∈k.plan,nc f=true){x:eF}{L:List Rq}(hm:jE x=true)(hf:k.aw<x.aw->k9 n k.reqs x=some L):
  Jj n k (k.kR x).1 xs x L (k.kR x).2:=by
 have h1:¬(jE x=false\/(k.aw<x.aw/\k9 k.ts.length k.reqs x=none)):=by
  rintro (h1|⟨h1,h2⟩)
  ·rw[hm]at h1;cases h1
  rw[h.len,hf h1]at h2;cases h2
 have hw:∀k0:gF,mW n k0 xs none->k0.d=k.d->k0.reqs=k.reqs->k0.aw=k.aw->k0.ts=k.ts->k.aw<x.aw->∀b:Int,(b=0\/b=9)->(∀f∈k0.plan,f∈k.plan)->k0.plan.length<=k.plan.length->Jj n k (k0.lE x L).1 xs x L (if (k0.lE x L).2=0 then b else (k0.lE x L).2):=by
  intro k0 h0 e1 e2 e3 e4 iw b hb sW uS;rcases icl h0 (by rw[e1];exact ha) (by rw[e1];exact ho) hl (L:=L) (by rw[e2];exact hf iw) (by rw[e3];exact iw) with ⟨w1,w2,w3,w4,w5,w6,w7⟩|⟨w1,w2,w3,w4,w5,w6,w7⟩
  ·rw[w1,zzc rfl];refine⟨by rw[e1]at w7;exact w7,by rw[w4];exact sW,by rw[w4];exact uS,λa=>w6 (by rw[e1];exact a),?_⟩;rcases hb with rfl|rfl
   ·exact .inl ⟨rfl,w5,⟨_,w2,by rw[zza];exact zzi _⟩,.inl ⟨iw,by rw[w3,e4]⟩⟩
   exact .inr (.inl ⟨rfl,w5,⟨_,w2,by rw[zza];exact zzi _⟩,.inl ⟨iw,by rw[w3,e4]⟩⟩)
  rw[w1,zzb (by decide)];have DW:k0.tr=k.tr:=by unfold gF.tr;rw[e2,e3,e4]
  exact⟨by rw[e1]at w7;exact w7,by rw[w4];exact sW,by rw[w4];exact uS,λa=>by rw[e1]at w6;exact absurd a w6,.inr (.inr ⟨rfl,w5,by rw[e1]at w6;exact w6,⟨_,w2,λy hy=>by cases hy;exact⟨rfl,iw⟩⟩,w3.trans DW⟩)⟩
 unfold gF.kR;rw[zzb h1,zzb (by rw[ho];decide)];simp only;cases hp:k.plan with
 | nil=>
  simp only;by_cases iw:k.aw<x.aw
  ·rw[zzc iw,h.len,hf iw];have:=hw k h rfl rfl rfl rfl iw 0 (.inl rfl) (λf hf=>hf) (zzi _);have e:(if (k.lE x L).2=0 then (0:Int) else (k.lE x L).2)=(k.lE x L).2:=by split<;>omega
   rw[e]at this
   exact this
  rw[zzb iw];exact⟨Nat.le_add_right _ _,λf hf=>hf,zzi _,id,.inl ⟨rfl,ho,⟨xs,h,Nat.le_succ _⟩,.inr ⟨iw,rfl⟩⟩⟩
 | cons f r=>
  simp only;have uR:mW n {k with plan:=r} xs none:=h.plan r;have vt:∀g∈r,g∈k.plan:=λg hg=>by rw[hp];exact .tail _ hg
  have hlen:r.length<=k.plan.length:=by rw[hp];simp
  have hid:Jj n k {k with plan:=r} xs x L 9:=⟨by show k.d.ops<=_;omega,vt,hlen,id,.inr (.inl ⟨rfl,ho,⟨xs,uR,by omega⟩,.inr rfl⟩)⟩;split
  ·by_cases iw:k.aw<x.aw
   ·rw[zzc iw,h.len,hf iw];exact hw {k with plan:=r} uR rfl rfl rfl rfl iw 9 (.inr rfl) vt hlen
   rw[zzb iw];exact hid
  by_cases h2:f.kind=2/\k.aw<x.aw
  ·rw[zzc h2];have Cj:0<=f.keep:=by
    have:=jz f (by rw[hp];exact .head _);unfold nc at this;rw[zzx]at this
    omega
   obtain⟨j1,j2,j3,j4,j5⟩:=gwn uR ha ho hl hm Cj;rcases j5 with ⟨q1,q2,q3⟩|⟨q1,q2,q3⟩
   ·rw[q1,zzc rfl];exact⟨yyw j4 (by show k.d.ops+2<=k.d.ops+3;omega),by rw[j3];exact vt,by rw[j3];exact hlen,q3,.inr (.inl ⟨rfl,q2,⟨xs,j1,by omega⟩,.inr j2⟩)⟩
   rw[q1,zzb (by decide)];exact⟨yyw j4 (by show k.d.ops+2<=k.d.ops+3;omega),by rw[j3];exact vt,by rw[j3];exact hlen,λa=>absurd a q3,.inr (.inr ⟨rfl,q2,q3,⟨none,j1,λy hy=>by cases hy⟩,j2⟩)⟩
  rw[zzb h2];exact hid
def Md:∀(n:Nat) (l:Ξ),l.Nodup->(∀x∈l,1<=x/\x<=(n:Int))->l.length<=n
 | 0,l,_,h=>by
  cases l with
  | nil=>exact zzi _
  | cons x l=>have:=h x (.head _);omega
 | n+1,l,hd,h=>by
  by_cases hm:((n+1:Nat):Int)∈l
  ·have h1:=Md n (l.erase ((n+1:Nat):Int)) (hd.erase _) λx hx=>by
    have h2:=hd.mem_erase_iff.1 hx;have:=h x h2.2;have:=h2.1;omega
   rw[List.length_erase_of_mem hm]at h1
   omega
  have:=Md n l hd λx hx=>by
   have:=h x hx;have:x≠((n+1:Nat):Int):=λe=>hm (e▸hx);omega
  omega
def iI.Ok.len{d:iI}(h:d.Ok):d.l.length<=64:=by
 have:=Md 64 (d.l.map Prod.fst) h.nd λx hx=>by
  obtain⟨m,hm,rfl⟩:=zzy.1 hx;have:=h.w m hm;omega
 rw[zzs]at this;exact this
def bWa:BO.Ok:=⟨by decide,by decide,by decide,by decide,λ_=>rfl,by simp,by simp⟩
def iI.Ok.add{d:iI}(h:d.Ok)(id w:Int):(d.add id w).Ok:=by
 unfold iI.add;split
 ·exact h
 rename_i hr;split
 ·exact h
 rename_i hf;have h1:=h.uz;refine⟨h.rI,by show d.at_<((d.l++[(id,w)]).length:Nat);rw[zza];simp;omega,h.Iu,h.Iv,h.neg,λm hm=>?_,?_⟩
 ·rcases zz0.1 hm with hm|hm
  ·exact h.w m hm
  rw[zz3.1 hm];simp only;omega
 show ((d.l++[(id,w)]).map Prod.fst).Nodup;rw[zzt,ttb];refine⟨h.nd,by simp,λa ha b hb=>?_⟩;obtain⟨m,hm,rfl⟩:=zzy.1 ha;have hb:b=id:=by simpa using hb
 subst hb;have:=xxl.1 hf m hm;simpa using this
def iI.Ok.del{d:iI}(h:d.Ok)(id:Int):(d.del id).Ok:=by
 unfold iI.del;split
 ·exact h
 rename_i i hf;have hi:i<d.l.length:=(yyk.1 hf).1;have h0:=h.rI;have h1:=h.uz;have hl:(d.l.eraseIdx i).length=d.l.length-1:=by rw[uut,zzc hi]
 refine⟨?_,?_,?_,?_,λhn=>?_,λm hm=>h.w m (vva hm),?_⟩
 ·simp only;split<;>omega
 ·simp only[hl];split<;>omega
 ·simp only;split
  ·exact yyc _
  exact h.Iu
 ·simp only;split
  ·decide
  exact h.Iv
 ·simp only at hn ⊢;split
  ·rfl
  split at hn
  ·omega
  exact h.neg hn
 simp only;exact h.nd.sublist ((List.eraseIdx_sublist _ _).map _)
def iI.Ok.pl{d:iI}(h:d.Ok)(iX:d.l≠[]):0<=d.place/\d.place<d.l.length/\d.rz∈d.l:=by
 have jz:0<=d.place/\d.place<d.l.length:=by
  have:=h.neg;have:=h.rI;have:=h.uz;have:0<d.l.length:=xx0.2 iX;unfold iI.place;split
  ·split<;>omega
  omega
 refine⟨jz.1,jz.2,?_⟩;unfold iI.rz;rw[zzd (show d.place.toNat<d.l.length by omega)];exact zzg _
def iI.Ok.next{d:iI}(h:d.Ok):d.next.1.Ok:=by
 unfold iI.next;split
 ·exact h
 rename_i iX;obtain⟨h1,h2,h3⟩:=h.pl iX;have hw:=h.w _ h3;have vo:=h.Iu;have A4:=h.Iv;refine⟨by simp only;omega,by simp only;omega,?_,?_,λhn=>?_,h.w,h.nd⟩
 ·simp only;split<;>omega
 ·simp only;split<;>omega
 simp only at hn;omega
def e_2{d:iI}(h:d.Ok)(iX:d.l≠[]):d.next.2=d.rz.1/\d.rz∈d.l:=by
 unfold iI.next;rw[zzb iX];exact⟨rfl,(h.pl iX).2.2⟩
def e_3(d:iI):d.next.1.l=d.l:=by
 unfold iI.next;split<;>rfl
def Uf:∀(L:List Rq) {d:iI},d.Ok->(L.foldl (λd r=>d.del r.id) d).Ok
 | [],_,h=>h
 | r::L,_,h=>Uf L (h.del r.id)
def Te:∀(L:List Rq) {d:iI},d.Ok->(L.foldl (λd r=>d.add r.id r.weight) d).Ok
 | [],_,h=>h
 | r::L,_,h=>Te L (h.add r.id r.weight)
def fRz{d:iI}(h:d.Ok)(L:List Rq):(rB d L).Ok:=Te _ (Uf _ h)
def bRt(d:iI)(id:Int):∀m∈(d.del id).l,m∈d.l:=λm hm=>by
 unfold iI.del at hm;split at hm
 ·exact hm
 exact vva hm
def Ug:∀(L:List Rq) (d:iI),∀m∈(L.foldl (λd r=>d.del r.id) d).l,m∈d.l
 | [],_,m,h=>h
 | r::L,d,m,h=>bRt d r.id m (Ug L (d.del r.id) m h)
def a_r(d:iI)(id w:Int):∀m∈(d.add id w).l,m∈d.l\/m=(id,w):=λm hm=>by
 unfold iI.add at hm;split at hm
 ·exact .inl hm
 split at hm
 ·exact .inl hm
 rcases zz0.1 hm with hm|hm
 ·exact .inl hm
 exact .inr (zz3.1 hm)
def a_s(d:iI)(id w:Int):∀m∈d.l,m∈(d.add id w).l:=λm hm=>by
 unfold iI.add;split
 ·exact hm
 split
 ·exact hm
 exact xx7 _ hm
def Tf:∀(L:List Rq) (d:iI),∀m∈(L.foldl (λd r=>d.add r.id r.weight) d).l,m∈d.l\/∃r∈L,m=(r.id,r.weight)
 | [],_,m,h=>.inl h
 | r::L,d,m,h=>by
  rcases Tf L (d.add r.id r.weight) m h with h|⟨x,hx,e⟩
  ·rcases a_r d r.id r.weight m h with h|h
   ·exact .inl h
   exact .inr ⟨r,.head _,h⟩
  exact .inr ⟨x,.tail _ hx,e⟩
def Tg:∀(L:List Rq) (d:iI),∀m∈d.l,m∈(L.foldl (λd r=>d.add r.id r.weight) d).l
 | [],_,m,h=>h
 | r::L,d,m,h=>Tg L (d.add r.id r.weight) m (a_s d r.id r.weight m h)
def fR0(d:iI)(L:List Rq):∀m∈(rB d L).l,m∈d.l\/∃r∈oa L,m=(r.id,r.weight):=λm hm=>by
 rcases Tf _ _ m hm with h|h
 ·exact .inl (Ug _ _ m h)
 exact .inr h
def a_q(d:iI){id w:Int}(h1:1<=id/\id<=64)(h2:1<=w/\w<=8):∃m∈(d.add id w).l,m.1=id:=by
 unfold iI.add;rw[zzb (by omega)];cases hf:D1 d id with
 | some i=>
  obtain⟨hi,hk,_⟩:=yyk.1 hf;exact⟨_,zzg hi,zzl hk⟩
 | none=>exact⟨(id,w),by simp,rfl⟩
def lr.at{L:List Rq}(h:lr L){r:Rq}(hr:r∈L):1<=r.id/\r.id<=L.length/\r.id<=64/\1<=r.weight/\r.weight<=8/\0<=r.table/\r.table<8/\0<=r.iH/\r.iH<=1099511627776:=by
 obtain⟨i,hi,rfl⟩:=yyi hr;obtain⟨⟨h1,h2,h3,h4,h5,h6,h7,h8,h9,AW,Dv⟩,_⟩:=h.2 i hi;have:=h.1;exact⟨by omega,by omega,by omega,h4,h5,h2,h3,h8,h9⟩
def fRy{d:iI}{L:List Rq}(hL:lr L)(h:oa L≠[]):(rB d L).l≠[]:=by
 unfold rB;generalize (L.filter (·.done)).foldl (λd r=>d.del r.id) d=d1;have rm:∀r∈oa L,r∈L:=λr hr=>(xx3.1 hr).1;generalize oa L=O at *
 match O,h with
 | r::O,_=>
  have ha:=hL.at (rm r (.head _));obtain⟨m,hm,_⟩:=a_q d1 (id:=r.id) (w:=r.weight) (by omega) (by omega);have:=Tg O (d1.add r.id r.weight) m hm;intro e;rw[wwd]at e
  rw[e]at this
  cases this
structure ky.Good(p:ky)(N:Nat):Prop where
 reqs:lr p.m.reqs
 t1:1<=p.m.tables/\p.m.tables<=8
 rI:0<=p.m.at_/\p.m.at_<=1099511627776
 wn:p.m.dI.n<=64
 rows:p.m.dI.rows.length<=64
 wid:0<=p.m.dI.id/\p.m.dI.id<=64
 d:p.d.Ok
 ids:∀m∈p.d.l,m.1<=p.m.reqs.length
 n:1<=p.n/\p.n<=64
 src:nF p.k N
def ky.Good.row{p:ky}{N:Nat}(h:p.Good N):(rB p.d p.m.reqs).Ok/\∀m∈(rB p.d p.m.reqs).l,m.1<=p.m.reqs.length:=by
 refine⟨fRz h.d _,λm hm=>?_⟩;rcases fR0 _ _ m hm with hm|⟨r,hr,rfl⟩
 ·exact h.ids m hm
 exact (h.reqs.at (xx3.1 hr).1).2.1
def ky.Good.sE{p:ky}{N:Nat}(h:p.Good N)(ho:oa p.m.reqs≠[]):∃r,As p.m.reqs (rB p.d p.m.reqs).next.2=some r/\r∈p.m.reqs/\r.id=(rB p.d p.m.reqs).next.2:=by
 obtain⟨h1,h2⟩:=h.row;have iX:=fRy (d:=p.d) h.reqs ho;obtain⟨e,hm⟩:=e_2 h1 iX;have ha:=h1.w _ hm;have hb:=h2 _ hm;rw[e];generalize (rB p.d p.m.reqs).rz.1=id at *
 have iw:(id-1).toNat<p.m.reqs.length:=by omega
 refine⟨p.m.reqs[(id-1).toNat],?_,zzg _,?_⟩
 ·unfold As;rw[zzb (by omega),zzd iw]
 have:=(h.reqs.2 _ iw).1.1;omega
def a_l{L L':List Rq}{t w a:Int}(h:ux L t w a=some L'):L'.length=L.length+1:=by
 unfold ux at h;split at h
 ·cases h;simp
 cases h
def bFh{L L':List Rq}{id c:Int}{dn:Bool}(h:p' L id c dn=some L'):L'.length=L.length:=by
 unfold p' at h;split at h
 ·split at h
  ·split at h
   ·cases h
   cases h;exact yyh
  cases h
 cases h
def a_m(m:iK)(s:Β)(aw:Int):m.reqs.length<=(m.accept s aw).1.length/\(lr m.reqs->lr (m.accept s aw).1):=by
 unfold iK.accept;split
 ·exact⟨zzi _,id⟩
 split
 ·exact⟨zzi _,id⟩
 split
 ·exact⟨zzi _,id⟩
 rename_i L hL;exact⟨by have:=a_l hL;simp only;omega,λ_=>ES hL⟩
def JN(aw:Int):∀(l:Θ) (m:iK),m.reqs.length<=(m.j_ aw l).1.reqs.length/\(lr m.reqs->lr (m.j_ aw l).1.reqs)/\(m.j_ aw l).1.dI=m.dI/\(m.j_ aw l).1.tables=m.tables/\(m.j_ aw l).1.late=m.late/\(m.j_ aw l).1.at_=m.at_
 | [],m=>⟨zzi _,id,rfl,rfl,rfl,rfl⟩
 | s::l,m=>by
  obtain⟨a,b⟩:=a_m m s aw;obtain⟨c,d,e⟩:=JN aw l {m with reqs:=(m.accept s aw).1};exact⟨yyw a c,λh=>d (b h),e⟩
def gwa{m:iK}{t:fF}(h:lr m.reqs)(hr:m.dI.rows.length<=64)(hn:m.dI.n<=64)(hi:0<=m.dI.id/\m.dI.id<=64)(ha:0<=m.at_/\m.at_<=1099511627776):
  m.reqs.length<=(m.take t).1.reqs.length/\lr (m.take t).1.reqs/\(m.take t).1.tables=m.tables/\(0<=(m.take t).1.at_/\(m.take t).1.at_<=1099511627776)/\(m.take t).1.dI.n<=64/\(m.take t).1.dI.rows.length<=64/\0<=(m.take t).1.dI.id/\(m.take t).1.dI.id<=64:=by
 have Aj:m.reqs.length<=m.reqs.length/\lr m.reqs/\m.tables=m.tables/\(0<=m.at_/\m.at_<=1099511627776)/\m.dI.n<=64/\m.dI.rows.length<=64/\0<=m.dI.id/\m.dI.id<=64:=⟨zzi _,h,rfl,ha,hn,hr,hi⟩;unfold iK.take;split
 ·exact Aj
 rename_i hm;obtain⟨m1,_⟩:=sA (show jC t=true by cases hq:jC t with
  | true=>rfl
  | false=>exact absurd hq hm)
 split
 ·exact Aj
 split
 ·unfold iK.De;simp only;obtain⟨a,b,c,d,_,f⟩:=JN t.aw t.signals {m with at_:=t.aw};generalize ({m with at_:=t.aw}:iK).j_ t.aw t.signals=y at *
  refine⟨a,b h,d,by rw[f];exact⟨by show 0<=t.aw;omega,by show t.aw<=_;omega⟩,?_⟩;rw[c];unfold iM.vF;simp only;split
  ·exact⟨hn,yyw (yyp _ _) hr,hi⟩
  exact⟨hn,hr,hi⟩
 split
 ·unfold iK.high;simp only;have HV:∀w o,m.dI.high t.mark t.aw=(w,o)->w.n<=64/\w.rows.length<=64/\0<=w.id/\w.id<=64:=λw o e=>by
   unfold iM.high at e;split at e
   ·cases e;exact⟨hn,hr,hi⟩
   cases e;exact⟨hn,zz8 _,yyc _,show (0:Int)<=64 by decide⟩
  split
  ·exact⟨zzi _,h,rfl,⟨by show 0<=t.aw;omega,by show t.aw<=_;omega⟩,hn,hr,hi⟩
  rename_i w x e;have hw:=HV _ _ e;split
  ·exact⟨zzi _,h,rfl,⟨by show 0<=t.aw;omega,by show t.aw<=_;omega⟩,hw⟩
  rename_i L hL;exact⟨by have:=bFh hL;simp only at this ⊢;omega,G9 hL,rfl,⟨by show 0<=t.aw;omega,by show t.aw<=_;omega⟩,hw⟩
 refine⟨zzi _,h,rfl,⟨by show 0<=t.aw;omega,by show t.aw<=_;omega⟩,?_⟩;show (m.dI.low t.mark).n<=64/\(m.dI.low t.mark).rows.length<=64/\0<=(m.dI.low t.mark).id/\(m.dI.low t.mark).id<=64;unfold iM.low;split<;>exact⟨hn,hr,hi⟩
def Ring(b cap:Nat)(L:Θ):zB:=nT λc:Nat=>nT λfirst:Nat=>nT λA:Θ=>
 zG (A.length=cap/\0<cap/\cap<=64/\first<cap/\L.length<=cap/\∀i,i<L.length->A[(first+i) % cap]?=L[i]?)
 [.pt b [.slice (some ⟨c,0,none⟩) cap cap,.int .i64 first,.int .i64 L.length] 188,.pt c (A.map .string) 9]
def Ring.open{W w:Α}{b cap:Nat}{L:Θ}{l:Ψ}(h:SL W (.ob (Ring b cap L)::l) w):∃(c first:Nat) (A:Θ),
  (A.length=cap/\0<cap/\cap<=64/\first<cap/\L.length<=cap/\∀i,i<L.length->A[(first+i) % cap]?=L[i]?) /\
  SL W (.pt b [.slice (some ⟨c,0,none⟩) cap cap,.int .i64 first,.int .i64 L.length] 188::.pt c (A.map .string) 9::l) w:=by
 simpa only[Ring,SL.ex,SL.fact,zzu,zzp] using h
def Ring.close{W w:Α}{b c first cap:Nat}{L A:Θ}{l:Ψ}(hA:A.length=cap/\0<cap/\cap<=64/\first<cap/\L.length<=cap/\∀i,i<L.length->A[(first+i) % cap]?=L[i]?)
  (h:SL W (.pt b [.slice (some ⟨c,0,none⟩) cap cap,.int .i64 first,.int .i64 L.length] 188::.pt c (A.map .string) 9::l) w):SL W (.ob (Ring b cap L)::l) w:=by
 simp only[Ring,SL.ex,SL.fact,zzu,zzp];exact⟨c,first,A,hA,h⟩
def XB{cap first i j:Nat}(hi:i<cap)(hj:j<cap)(h:(first+i) % cap=(first+j) % cap):i=j:=by
 have h1:=vv8 (first+i) cap;have h2:=vv8 (first+j) cap;rw[h]at h1
 rcases Nat.lt_trichotomy ((first+i) / cap) ((first+j) / cap) with hd|hd|hd
 ·have:=uuz cap hd;simp only[Nat.succ_eq_add_one,Nat.mul_add,vvr]at this;omega
 ·rw[hd]at h1;omega
 have:=uuz cap hd;simp only[Nat.succ_eq_add_one,Nat.mul_add,vvr]at this;omega
def ZJ(b c cap first n i:Nat)(Cb:0<cap)(tW:cap<=64)(hf:first<cap)(hi:i<=64):
  SP 223 [.pointer (some ⟨b,0,none⟩),.int .i64 i] [.pt b [.slice (some ⟨c,0,none⟩) cap cap,.int .i64 first,.int .i64 n] 188]
   (e_ (.int .i64 (((first+i) % cap:Nat):Int)) [.pt b [.slice (some ⟨c,0,none⟩) cap cap,.int .i64 first,.int .i64 n] 188]):=by
 refine Enzz λW F w hS=>?_;apply gWj;delta Pr bW;refine Gn λw hS=>?_;(exact dW hS)
def yQ(b cap:Nat)(L:Θ):SP 52 [.pointer (some ⟨b,0,none⟩)] [.ob (Ring b cap L)] (e_ (.int .i64 L.length) [.ob (Ring b cap L)]):=by
 refine Enzz λW F w hS=>?_;apply ia7;delta Sy bW;obtain⟨c,first,A,hA,hS⟩:=Ring.open hS;refine Gp ?_;have hS:=Ring.close hA hS;(exact dW hS)
def Y8(b cap:Nat)(L:Θ):SP 61 [.pointer (some ⟨b,0,none⟩)] [.ob (Ring b cap L)] (e_ (.int .i64 cap) [.ob (Ring b cap L)]):=by
 refine Enzz λW F w hS=>?_;apply ibg;delta SH bW;obtain⟨c,first,A,hA,hS⟩:=Ring.open hS;refine Gp ?_;have hS:=Ring.close hA hS;(exact dW hS)
def YI(b cap:Nat)(L:Θ)(s:Β):SP 165 [.pointer (some ⟨b,0,none⟩),.string s] [.ob (Ring b cap L)]
  (e_ (.bool (decide (L.length<cap))) [.ob (Ring b cap (if L.length<cap then L++[s] else L))]):=by
 refine Enzz λW F w hS=>?_;apply gI1;delta Oz aI bW ia aR b_ cW ai;obtain⟨c,first,A,hA,hS⟩:=Ring.open hS;obtain⟨h1,h2,h3,h4,h5,h6⟩:=hA;refine Gn λw hS=>?_;refine za (λh=>?_) (λh=>?_)
 ·have iw:¬L.length<cap:=by omega
  simp only[iw,vvn,ww6];have hS:=Ring.close ⟨h1,h2,h3,h4,h5,h6⟩ hS;(exact dW hS)
 have iw:L.length<cap:=by omega
 have hk:(first+L.length) % cap<cap:=vvh _ h2;simp only[iw,ww7,tth];refine Gn λw hS=>?_;refine Cg (ZJ b c cap first L.length L.length h2 h3 h4 (by omega)) λw hS=>?_;refine zF hk ?_;refine Zz hS (cs:=A.map .string) Xu (u:=.string (A[(first+L.length) % cap]'(by omega))) ?_ rfl ?_
 ·simp[h1,hk]
 clear hS;intro w hS;refine Gn λw hS=>?_;have hS:=Ring.close (L:=L++[s]) (A:=A.set ((first+L.length) % cap) s) (b:=b) (c:=c) (first:=first) (cap:=cap) ⟨by simp[h1],h2,h3,h4,by simp;omega,λi hi=>?_⟩ (l:=F) (by simpa [vvg] using hS)
 ·(exact dW hS)
 by_cases he:i=L.length
 ·subst he;simp[h1,hk]
 have Ci:i<L.length:=by simp at hi;omega
 rw[List.getElem?_set_ne (λe=>he (XB (by omega) iw e.symm)),h6 i Ci,zzr Ci]
def XD(n:Nat)(h1:1<=n)(h2:n<=64):SP 144 [.int .i64 n] [] (λv post=>∃b:Nat,v= .tuple #[.pointer (some ⟨b,0,none⟩),.int .i64 0]/\post=[.ob (Ring b n [])]):=by
 intro W F w hS;apply gIe;delta N' aI ai h_ gI bI;(try simp only[app]at hS);refine Gp ?_;refine za (λh=>by omega) (λ_=>?_);refine Gp ?_;refine za (λh=>by omega) (λ_=>?_);refine awg hS (zzi _) (by omega) (by omega) ?_;clear hS;intro c w hS;refine Gp ?_;refine⟨_,rfl,zD hS ?_⟩;clear hS;intro b w hS;have hS:=Ring.close (A:=List.replicate n ⟨#[]⟩) (L:=[]) (first:=0) (cap:=n) (b:=b) (c:=c) (l:=F) ⟨by simp,by omega,by omega,by omega,by simp,λi hi=>by simp at hi⟩ (by simpa [fR] using hS);exact⟨_,⟨b,rfl,rfl⟩,hS⟩
def X_(b cap:Nat):SP 104 [.pointer (some ⟨b,0,none⟩)] [.ob (Ring b cap [])] (e_ (.tuple #[.string ⟨#[]⟩,.bool false]) [.ob (Ring b cap [])]):=by
 refine Enzz λW F w hS=>?_;apply aF1;delta Jx aI bW ai;obtain⟨c,first,A,hA,hS⟩:=Ring.open hS;refine Gp ?_;refine za (λh=>?_) (λh=>absurd rfl h);have hS:=Ring.close hA hS;(exact dW hS)
def Vu{cap first:Nat}{s:Β}{L A:Θ}(h4:first<cap)(h6:∀i,i<(s::L).length->A[(first+i) % cap]?=(s::L)[i]?):(A.map Value.string)[first]?=some (.string s):=by
 have h0:=h6 0 (by simp);simp only[xxg,wwz h4,List.getElem?_cons_zero]at h0;simp[h0]
def Y'(b cap:Nat)(s:Β)(L:Θ):SP 104 [.pointer (some ⟨b,0,none⟩)] [.ob (Ring b cap (s::L))] (e_ (.tuple #[.string s,.bool true]) [.ob (Ring b cap (s::L))]):=by
 refine Enzz λW F w hS=>?_;apply aF1;delta Jx aI bW ai;obtain⟨c,first,A,hA,hS⟩:=Ring.open hS;obtain⟨h1,h2,h3,h4,h5,h6⟩:=hA;refine Gp ?_;refine za (λh=>by simp at h;omega) (λh=>?_);refine Gn λw hS=>?_;refine zF h4 ?_;refine zV hS (cs:=A.map .string) (.tl .hd) (v:=.string s) (by simpa using Vu h4 h6) ?_;have hS:=Ring.close ⟨h1,h2,h3,h4,h5,h6⟩ hS;(exact dW hS)
def fFx(b cap:Nat):SP 166 [.pointer (some ⟨b,0,none⟩)] [.ob (Ring b cap [])] (e_ (.tuple #[.string ⟨#[]⟩,.bool false]) [.ob (Ring b cap [])]):=by
 refine Enzz λW F w hS=>?_;apply aF4;delta JA bW ia ai;refine Cg (X_ b cap) λw hS=>?_;(exact dW hS)
def Z_(b cap:Nat)(s:Β)(L:Θ):SP 166 [.pointer (some ⟨b,0,none⟩)] [.ob (Ring b cap (s::L))] (e_ (.tuple #[.string s,.bool true]) [.ob (Ring b cap L)]):=by
 refine Enzz λW F w hS=>?_;apply aF4;delta JA bW ia ai;refine Cc (Y' b cap s L) ?_;clear hS;rintro v post ⟨rfl,rfl⟩ w hS;try simp only[app]at hS
 obtain⟨c,first,A,hA,hS⟩:=Ring.open hS;obtain⟨h1,h2,h3,h4,h5,h6⟩:=hA;simp only[zzj]at hS h5;refine Gn λw hS=>?_;refine zF h4 ?_;refine Zz hS (cs:=A.map .string) Xu (u:=.string s) (by simpa using Vu h4 h6) rfl ?_;clear hS;intro w hS;refine Cg (ZJ b c cap first (L.length+1) 1 h2 h3 h4 (by omega)) λw hS=>?_;have hS:=Ring.close (L:=L) (A:=A.set first ⟨#[]⟩) (b:=b) (c:=c) (first:=(first+1) % cap) (cap:=cap) (l:=F) ⟨by simp[h1],h2,h3,vvh _ h2,by omega,λi hi=>?_⟩ (by simpa [vvg] using hS)
 ·(exact dW hS)
 have e1:((first+1) % cap+i) % cap=(first+(i+1)) % cap:=by
  rw[Nat.mod_add_mod];congr 1;omega
 have e2:first≠(first+(i+1)) % cap:=λe=>by
  have:=XB (cap:=cap) (first:=first) (i:=0) (j:=i+1) h2 (by omega) (by rw[xxg,wwz h4];exact e);omega
 rw[e1,List.getElem?_set_ne e2,h6 (i+1) (by simp;omega),List.getElem?_cons_succ]
def Gate(g b cap out:Nat)(L:Θ):zB:=zG (L.length+out<=cap/\cap<=64) [.pt g [.pointer (some ⟨b,0,none⟩),.int .i64 out] 125,.ob (Ring b cap L)]
def Gate.open{W w:Α}{g b cap out:Nat}{L:Θ}{l:Ψ}(h:SL W (.ob (Gate g b cap out L)::l) w):(L.length+out<=cap/\cap<=64) /\
  SL W (.pt g [.pointer (some ⟨b,0,none⟩),.int .i64 out] 125::.ob (Ring b cap L)::l) w:=by
 simpa only[Gate,SL.fact,zzu,zzp] using h
def Gate.close{W w:Α}{g b cap out:Nat}{L:Θ}{l:Ψ}(hA:L.length+out<=cap/\cap<=64)
  (h:SL W (.pt g [.pointer (some ⟨b,0,none⟩),.int .i64 out] 125::.ob (Ring b cap L)::l) w):SL W (.ob (Gate g b cap out L)::l) w:=by
 simp only[Gate,SL.fact,zzu,zzp];exact⟨hA,h⟩
def cWx(n:Nat)(h1:1<=n)(h2:n<=64):SP 145 [.int .i64 n] [] (λv post=>∃g b:Nat,v= .tuple #[.pointer (some ⟨g,0,none⟩),.int .i64 0]/\post=[.ob (Gate g b n 0 [])]):=by
 refine Enzz λW F w hS=>?_;apply gIf;delta N_ aI ai h_;refine Cc (XD n h1 h2) ?_;clear hS;rintro v post ⟨b,rfl,rfl⟩ w hS;(try simp only[app]at hS);refine Gp ?_
 refine za (λh1=>absurd rfl h1) (λh1=>?_);refine Gp ?_;refine⟨_,rfl,zD hS ?_⟩;clear hS;intro g w hS;have hS:=Gate.close (out:=0) ⟨by simp,h2⟩ hS;exact⟨_,⟨g,b,rfl,rfl⟩,hS⟩
def zH(g b cap out:Nat)(L:Θ):SP 54 [.pointer (some ⟨g,0,none⟩)] [.ob (Gate g b cap out L)] (e_ (.int .i64 ((cap-L.length-out:Nat):Int)) [.ob (Gate g b cap out L)]):=by
 refine Enzz λW F w hS=>?_;apply ia9;delta SA bW aR b_;obtain⟨hA,hS⟩:=Gate.open hS;refine Gn λw hS=>?_;refine Cg (Y8 b cap L) λw hS=>?_;refine Cg (yQ b cap L) λw hS=>?_;have hS:=Gate.close (l:=F) hA (by exact aW hS);rw[show (cap:Int)-(L.length:Int)-(out:Int)=((cap-L.length-out:Nat):Int) by omega];(exact dW hS)
def cW2(g b cap out:Nat)(L:Θ)(s:Β)(h:L.length+out<cap):SP 228 [.pointer (some ⟨g,0,none⟩),.string s] [.ob (Gate g b cap out L)] (e_ (.bool true) [.ob (Gate g b cap out (L++[s]))]):=by
 refine Enzz λW F w hS=>?_;apply gWo;delta Pw aI bW cW ai;refine Cg (zH g b cap out L) λw hS=>?_;refine za (λh1=>?_) (λh1=>by omega);obtain⟨hA,hS⟩:=Gate.open hS;refine Gp ?_;refine Cc (YI b cap L s) ?_;clear hS;rintro v post ⟨rfl,rfl⟩ w hS;try simp only[app]at hS
 have iw:L.length<cap:=by omega
 simp only[iw,ww7]at hS;simp only[iw,tth];have hS:=Gate.close (l:=F) (g:=g) (b:=b) (out:=out) (cap:=cap) (L:=L++[s]) ⟨by simp;omega,hA.2⟩ (by exact aW hS);(exact dW hS)
def cW0(g b cap out:Nat):SP 299 [.pointer (some ⟨g,0,none⟩)] [.ob (Gate g b cap out [])] (e_ (.tuple #[.string ⟨#[]⟩,.bool false]) [.ob (Gate g b cap out [])]):=by
 refine Enzz λW F w hS=>?_;apply aF6;delta JD bW ia ai;obtain⟨hA,hS⟩:=Gate.open hS;refine Gp ?_;refine Cg (fFx b cap) λw hS=>?_;have hS:=Gate.close (l:=F) hA (by exact aW hS);(exact dW hS)
def cW1(g b cap out:Nat)(s:Β)(L:Θ):SP 299 [.pointer (some ⟨g,0,none⟩)] [.ob (Gate g b cap out (s::L))] (e_ (.tuple #[.string s,.bool true]) [.ob (Gate g b cap (out+1) L)]):=by
 refine Enzz λW F w hS=>?_;apply aF6;delta JD bW ia ai;obtain⟨hA,hS⟩:=Gate.open hS;simp only[zzj]at hA;refine Gp ?_;refine Cg (Z_ b cap s L) λw hS=>?_;have hS:=Gate.close (l:=F) (g:=g) (b:=b) (out:=out+1) (cap:=cap) (L:=L) ⟨by omega,hA.2⟩ (by exact aW hS);(exact dW hS)
def tq(n:Int)(out:Nat):Nat:=(min (max n 0) (out:Int)).toNat
def cWp(n:Int)(out:Nat):min (max n 0) (out:Int)=(tq n out:Int):=by unfold tq;omega
def UU(n:Int)(out:Nat):tq n out<=out:=by unfold tq;omega
def Qq(n:Int)(g b cap out:Nat)(L:Θ):SP 239 [.pointer (some ⟨g,0,none⟩),.int .i64 n] [.ob (Gate g b cap out L)] (e_ (.int .i64 (tq n out:Int)) [.ob (Gate g b cap (out-tq n out) L)]):=by
 refine Enzz λW F w hS=>?_;apply gWz;delta PI bW ia ai;obtain⟨hA,hS⟩:=Gate.open hS;have hg:=UU n out;refine Gn λw hS=>?_;rw[cWp]at hS ⊢
 rw[show (out:Int)-(tq n out:Int)=((out-tq n out:Nat):Int) by omega]at hS
 have hS:=Gate.close (l:=F) (g:=g) (b:=b) (cap:=cap) (L:=L) (out:=out-tq n out) ⟨by omega,hA.2⟩ (by exact aW hS);(exact dW hS)
def cWz(g b cap out:Nat)(L:Θ):SP 53 [.pointer (some ⟨g,0,none⟩)] [.ob (Gate g b cap out L)] (e_ (.int .i64 out) [.ob (Gate g b cap out L)]):=by
 refine Enzz λW F w hS=>?_;apply ia8;delta Sz bW;obtain⟨hA,hS⟩:=Gate.open hS;refine Gp ?_;have hS:=Gate.close (l:=F) hA (by exact aW hS);(exact dW hS)
abbrev u_(b m j:Int):Prop:=1<=b/\b<=1073741824/\b<=m/\m<=1073741824/\0<=j/\j<=1073741824
def BN(k:Nat)(b m:Int):Int:=min (b*2 ^ k) m
def Di(k b m:Int):Int:=if u_ b m 0 then BN k.toNat b m else 0
def vJ(k b m j draw:Int):Int:=if u_ b m j then Di k b m+max draw 0 % (j+1) else 0
def Mz(b:Int)(hb:0<=b){i k:Nat}(h:i<=k):b*2 ^ i<=b*2 ^ k:=
 Int.mul_le_mul_of_nonneg_left (by
  have:=vvx (by decide:0<2) h;have h1:((2:Int) ^ i)=((2 ^ i:Nat):Int):=by simp
  have h2:((2:Int) ^ k)=((2 ^ k:Nat):Int):=by simp
  rw[h1,h2];omega) hb
def Ui{k:Nat}{b m:Int}(hb:1<=b){i:Nat}(hi:i<=k)(h:m<=b*2 ^ i):BN k b m=m:=by
 have:=Mz b (by omega) hi;unfold BN;exact Int.min_eq_right (by omega)
def yX(b m j:Int):SP 94 [.int .i64 b,.int .i64 m,.int .i64 j] [] (e_ (.bool (decide (u_ b m j))) []):=by
 refine Enzz λW F w hS=>?_;apply ib0;delta S3 aI cW ai;have hF:∀{w:Α},¬u_ b m j->SL W F w->∃post,e_ (.bool (decide (u_ b m j))) [] (.bool false) post/\SL W (app post F) w:=λh hS=>⟨_,⟨by rw[zzz h],rfl⟩,hS⟩;(repeat (first|refine Gp ?_|refine Gw λw hS=>?_|refine za (λ_=>hF (by omega) hS) (λ_=>?_)|refine za (λ_=>?_) (λ_=>hF (by omega) hS)))
 have e:decide (j<=1073741824)=decide (u_ b m j):=by rw[yyg];omega
 rw[e];exact⟨_,⟨rfl,rfl⟩,hS⟩
def bRv{k:Nat}{b m:Int}:BN k b m<=m:=Int.min_le_right _ _
def Uj{k b m:Int}:0<=Di k b m/\Di k b m<=1073741824:=by
 unfold Di;split
 ·rename_i h;have h1:=@bRv k.toNat b m;have h2:=Mz b (by omega) (zz8 k.toNat);rw[Int.pow_zero,Int.mul_one]at h2
  refine⟨?_,by omega⟩;unfold BN;exact Int.le_min.2 ⟨by omega,by omega⟩
 omega
def fW7{a:Int}{n:Nat}{K:Ω->Prop}(hn:n<=30)(hr : -9223372036854775808<=a*2 ^ n/\a*2 ^ n<=9223372036854775807)(h:K (.int .i64 (a*2 ^ n))):zc .shl (.int .i64 a) (.int .i64 (n:Int)) K:=by
 refine⟨.int .i64 (a*2 ^ n),?_,h⟩;have Co:min n 64=n:=xxn (by omega);show (if ((n:Nat):Int)<0 then none else some (Value.int .i64 (IntKind.i64.wrap (a*2 ^ (min ((n:Nat):Int).toNat 64)))))=_;rw[zzb (by omega),zzv,Co,wwb _ hr]
def fW9{a:Int}{n:Nat}{K:Ω->Prop}(hn:n<=30)(h:K (.int .i64 (a / 2 ^ n))):zc .shr (.int .i64 a) (.int .i64 (n:Int)) K:=by
 refine⟨.int .i64 (a / 2 ^ n),?_,h⟩;have Co:min n 64=n:=xxn (by omega);have hp:(0:Int)<2 ^ n:=Int.pow_pos (by decide);show (if ((n:Nat):Int)<0 then none else some (Value.int .i64 (a.fdiv (2 ^ (min ((n:Nat):Int).toNat 64)))))=_;rw[zzb (by omega),zzv,Co,vvt _ (by omega)]
def Qk(k b m:Int):SP 375 [.int .i64 k,.int .i64 b,.int .i64 m] [] (e_ (.int .i64 (Di k b m)) []):=by
 refine Enzz λW F w hS=>?_;apply iap;delta Se aI gi ai;refine Gp ?_;refine Cc (yX b m 0) ?_;clear hS;rintro v post ⟨rfl,rfl⟩ w hS;try simp only[app]at hS
 unfold Di;by_cases hm:u_ b m 0
 ·rw[zzc hm,zzm hm];obtain⟨h1,h2,h3,h4,_⟩:=hm;refine Gp ?_;refine zp ?_;refine Gp ?_;have ek:max k 0=(k.toNat:Int):=by omega
  rw[ek];generalize k.toNat=n at *
  refine za (λhk=>?_) (λhk=>?_)
  ·have h5:(1073741824:Int)<=b*2 ^ 30:=by
    have:(1:Int)*2 ^ 30<=b*2 ^ 30:=Int.mul_le_mul_of_nonneg_right h1 (by decide);omega
   rw[Ui h1 (i:=30) (by omega) (by omega)];exact⟨_,⟨rfl,rfl⟩,hS⟩
  have hp:(0:Int)<2 ^ n:=Int.pow_pos (by decide);refine fW9 (by omega) ?_;refine cF (λhg=>?_) (λhg=>?_)
  ·have:m<b*2 ^ n:=(Int.ediv_lt_iff_lt_mul hp).1 hg;rw[Ui h1 (zzi n) (by omega)];exact⟨_,⟨rfl,rfl⟩,hS⟩
  have hle:b*2 ^ n<=m:=(Int.le_ediv_iff_mul_le hp).1 (by omega);have h0:=Mz b (by omega) (zz8 n);rw[Int.pow_zero,Int.mul_one]at h0
  refine fW7 (by omega) (by omega) ?_;have e:BN n b m=b*2 ^ n:=by unfold BN;exact Int.min_eq_left hle
  rw[e];exact⟨_,⟨rfl,rfl⟩,hS⟩
 rw[zzb hm,zzz hm];refine Gp ?_;refine zq ?_;exact⟨_,⟨rfl,rfl⟩,hS⟩
def aIf{k b m j draw:Int}:0<=vJ k b m j draw/\vJ k b m j draw<=2147483648:=by
 unfold vJ;split
 ·rename_i h;obtain⟨_,_,_,_,h5,h6⟩:=h;have h1:=@Uj k b m;have h2:=ww5 (max draw 0) (b:=j+1) (by omega);have h3:=vv9 (max draw 0) (b:=j+1) (by omega);omega
 omega
def ica(k b m j draw:Int):SP 345 [.int .i64 k,.int .i64 b,.int .i64 m,.int .i64 j,.int .i64 draw] [] (e_ (.int .i64 (vJ k b m j draw)) []):=by
 refine Enzz λW F w hS=>?_;apply iaa;delta R4 gi ai;refine Cc (yX b m j) ?_;clear hS;rintro v post ⟨rfl,rfl⟩ w hS;try simp only[app]at hS
 unfold vJ;by_cases hm:u_ b m j
 ·rw[zzc hm,zzm hm];obtain⟨h1,h2,h3,h4,h5,h6⟩:=hm;refine Gp ?_;refine zp ?_;refine Gn λw hS=>?_;refine ZL (by omega) ?_;rw[xxt (by omega)];have h7:=ww5 (max draw 0) (b:=j+1) (by omega);have h8:=vv9 (max draw 0) (b:=j+1) (by omega);have h9:=@Uj k b m;generalize max draw 0 % (j+1)=r at *
  refine Cg (Qk k b m) λw hS=>?_;(exact dW hS)
 rw[zzb hm,zzz hm];refine Gp ?_;refine zq ?_;exact⟨_,⟨rfl,rfl⟩,hS⟩
def vU(now:Int):Int:=max 0 (min now 1125899906842624)
def TL(now:Int):0<=vU now/\vU now<=1125899906842624:=by unfold vU;omega
abbrev rtc(b m j f u:Int):Γ:=[.int .i64 b,.int .i64 m,.int .i64 j,.int .i64 f,.int .i64 u]
abbrev o8(p:Nat)(b m j f u:Int):Η:=.pt p (rtc b m j f u) 197
def gws(b m j:Int):SP 146 [.int .i64 b,.int .i64 m,.int .i64 j] [] (λv post=>if u_ b m j then ∃p:Nat,v= .tuple #[.pointer (some ⟨p,0,none⟩),.int .i64 0]/\post=[o8 p b m j 0 0] else v= .tuple #[.pointer none,.int .i64 1]/\post=[]):=by
 refine Enzz λW F w hS=>?_;apply gIg;delta Oa gi ai h_;refine Cc (yX b m j) ?_;clear hS;rintro v post ⟨rfl,rfl⟩ w hS;try simp only[app]at hS
 by_cases hm:u_ b m j
 ·rw[zzm hm];refine Gp ?_;refine zp ?_;refine Gp ?_;refine⟨_,rfl,zD hS λp w hS=>?_⟩;exact⟨[o8 p b m j 0 0],(zzc hm).mpr ⟨p,rfl,rfl⟩,hS⟩
 rw[zzz hm];refine Gp ?_;refine zq ?_;exact⟨[],(zzb hm).mpr ⟨rfl,rfl⟩,hS⟩
def Q6(b m j k draw:Int):SP 302 [agg [.int .i64 b,.int .i64 m,.int .i64 j],.int .i64 k,.int .i64 draw] [] (e_ (.int .i64 (vJ k b m j draw)) []):=by
 refine Enzz λW F w hS=>?_;apply h_d;delta Rw a_;refine⟨_,rfl,zD hS λp w hS=>?_⟩;refine Gp ?_;refine Cg (ica k b m j draw) λw hS=>?_;(exact dW hS)
def Q1(p:Nat)(b m j f u now draw:Int)(hf:0<=f/\f<=1000000000):SP 241 [.pointer (some ⟨p,0,none⟩),.int .i64 now,.int .i64 draw] [o8 p b m j f u] (e_ (.int .i64 (vU now+vJ (f+1) b m j draw)) [o8 p b m j (f+1) (vU now+vJ (f+1) b m j draw)]):=by
 refine Enzz λW F w hS=>?_;apply gW1;delta PK bW ia b_ ai;have h1:=TL now;have h2:=@aIf (f+1) b m j draw;have e:min (max now 0) 1125899906842624=vU now:=by unfold vU;omega
 refine Gn λw hS=>?_;rw[e];refine yD (vs:=[.int .i64 b,.int .i64 m,.int .i64 j]) hS Xh rfl (λi v h=>?_) ?_
 ·match i,h with
  | 0,h=>exact h
  | 1,h=>exact h
  | 2,h=>exact h
  | i+3,h=>simp at h
 refine Gp ?_;refine Cg (Q6 b m j (f+1) draw) λw hS=>?_;(exact dW hS)
def QY(p:Nat)(b m j f u:Int):SP 240 [.pointer (some ⟨p,0,none⟩)] [o8 p b m j f u] (e_ (.tuple #[]) [o8 p b m j 0 0]):=by
 refine Enzz λW F w hS=>?_;apply gW0;delta PJ ia ai;refine Gn λw hS=>?_;(exact dW hS)
def qQ(p:Nat)(b m j f u now:Int):SP 107 [.pointer (some ⟨p,0,none⟩),.int .i64 now] [o8 p b m j f u] (e_ (.bool (decide (u<=now))) [o8 p b m j f u]):=by
 refine Enzz λW F w hS=>?_;apply gFl;delta NH bW;refine Gp ?_;(exact dW hS)
def qP(p:Nat)(b m j f u:Int):SP 57 [.pointer (some ⟨p,0,none⟩)] [o8 p b m j f u] (e_ (.int .i64 f) [o8 p b m j f u]):=by
 refine Enzz λW F w hS=>?_;apply ibc;delta SD bW;refine Gp ?_;(exact dW hS)
def qR(p:Nat)(b m j f u:Int):SP 58 [.pointer (some ⟨p,0,none⟩)] [o8 p b m j f u] (e_ (.int .i64 u) [o8 p b m j f u]):=by
 refine Enzz λW F w hS=>?_;apply ibd;delta SE bW;refine Gp ?_;(exact dW hS)
def sY:eF:=⟨0,[],[]⟩
def jn(a x:eF):eF:=⟨x.aw,a.ops++x.ops,a.notes++x.notes⟩
def oD(l:List eF):eF:=l.foldl jn sY
structure AG(n:Nat)(x:eF):Prop where
 may:jE x=true
 gw:wH n x=true
 ops:x.ops.length<=64
 mO:x.notes.length<=4
def kI:Int->List eF->Prop
 | _,[]=>True
 | b,x::l=>b<x.aw/\kI x.aw l
def kI.mono{b c:Int}(h:c<=b):∀{l:List eF},kI b l->kI c l
 | [],_=>trivial
 | _::_,⟨h1,h2⟩=>⟨by omega,h2⟩
def mN(b:Int)(l:List eF):Int:=l.foldl (λ_ x=>x.aw) b
def eI2(b:Int)(l:List eF)(x:eF):mN b (l++[x])=x.aw:=by simp[mN]
def LU(b:Int)(l l':List eF):mN b (l++l')=mN (mN b l) l':=by simp[mN]
def kI.append{l':List eF}:∀{l:List eF} {b:Int},kI b (l++l')↔kI b l/\kI (mN b l) l'
 | [],b=>⟨λh=>⟨trivial,h⟩,λh=>h.2⟩
 | x::l,b=>by
  show b<x.aw/\kI x.aw (l++l')↔(b<x.aw/\kI x.aw l)/\kI (mN x.aw l) l';rw[kI.append (l:=l) (b:=x.aw)];exact⟨λ⟨a,b,c⟩=>⟨⟨a,b⟩,c⟩,λ⟨⟨a,b⟩,c⟩=>⟨a,b,c⟩⟩
def kI.last{b:Int}:∀{l:List eF},kI b l->b<=mN b l:=λ{l}=>by
 induction l generalizing b with
 | nil=>intro _;exact yyc _
 | cons x l ih=>rintro ⟨h1,h2⟩;have:=ih h2;show b<=mN x.aw l;omega
def kI.snoc{b:Int}{l:List eF}{x:eF}(h:kI b l)(hx:mN b l<x.aw):kI b (l++[x]):=kI.append.2 ⟨h,hx,trivial⟩
structure sI(n:Nat)(a:eF)(k:Nat):Prop where
 l0:0<=a.aw
 l1:a.aw<=1099511627776
 pos:0<k->1<=a.aw
 mO:a.notes.length<=4*k
 Mf:∀m∈a.notes,nm m a.aw=true
 len:a.ops.length<=64*k
 ops:∀o∈a.ops,ph o a.aw=true
 sD:∀o∈a.ops,o.table<(n:Int)
def eW1{o:lA}{l l':Int}(h:ph o l=true)(hl:l<=l'):ph o l'=true:=by
 unfold ph at *
 rw[zzx]at *
 exact⟨h.1,by omega,h.2.2⟩
def eW0{m:mn}{l l':Int}(h:nm m l=true)(hl:l<=l'):nm m l'=true:=by
 unfold nm at *
 rw[zzx]at *
 obtain⟨h1,h2,⟨a1,a2,a3,a4,a5,a6,a7,a8⟩|h3⟩:=h
 ·exact⟨h1,h2,.inl ⟨a1,a2,a3,a4,a5,a6,by omega,a8⟩⟩
 exact⟨h1,h2,.inr h3⟩
def AG.iff{n:Nat}{x:eF}(h:AG n x):(1<=x.aw/\x.aw<=1099511627776)/\(∀o∈x.ops,ph o x.aw=true)/\(∀m∈x.notes,nm m x.aw=true)/\∀o∈x.ops,o.table<(n:Int):=by
 obtain⟨⟨h1,h2,_⟩,h3,h4⟩:=tC.1 h.may;have ht:=h.gw;unfold wH at ht;rw[zz5]at ht
 exact⟨⟨h1,h2⟩,h3,h4,λo ho=>zzl (ht o ho)⟩
def sI.zero(n:Nat):sI n sY 0:=⟨yyc _,by show (0:Int)<=_;decide,λh=>by omega,zzi _,λo h=>(by cases h),zzi _,λo h=>(by cases h),λo h=>(by cases h)⟩
def sI.step{n:Nat}{a x:eF}{k:Nat}(h:sI n a k)(hx:AG n x)(hl:a.aw<x.aw):sI n (jn a x) (k+1):=by
 obtain⟨⟨h1,h2⟩,h3,xY,h4⟩:=hx.iff;have h5:=hx.ops;have h6:=h.len;have h7:=hx.mO;have h8:=h.mO;refine⟨by show 0<=x.aw;omega,h2,λ_=>h1,by show (a.notes++x.notes).length<=_;rw[zza];omega,λm hm=>?_,by show (a.ops++x.ops).length<=_;rw[zza];omega,λo ho=>?_,λo ho=>?_⟩
 ·rcases zz0.1 hm with hm|hm
  ·exact eW0 (h.Mf m hm) (by show a.aw<=x.aw;omega)
  exact xY m hm
 ·rcases zz0.1 ho with ho|ho
  ·exact eW1 (h.ops o ho) (by show a.aw<=x.aw;omega)
  exact h3 o ho
 rcases zz0.1 ho with ho|ho
 ·exact h.sD o ho
 exact h4 o ho
def eIe(l:List eF)(x:eF):oD (l++[x])=jn (oD l) x:=by simp[oD]
def eIf{l:List eF}{i:Nat}(h:i<l.length):oD (l.take (i+1))=jn (oD (l.take i)) l[i]:=by
 rw[zze h,eIe]
def sI.fold{n:Nat}:∀(l:List eF) {a:eF} {k:Nat},sI n a k->(∀x∈l,AG n x)->kI a.aw l->sI n (l.foldl jn a) (k+l.length)
 | [],a,k,h,_,_=>h
 | x::l,a,k,h,hx,⟨FQ,Cv⟩=>by
  have:=sI.fold l (h.step (hx x (.head _)) FQ) (λy hy=>hx y (.tail _ hy)) Cv;rw[zzj,show k+(l.length+1)=k+1+l.length by omega];exact this
def F8{n:Nat}{l:List eF}(h:∀x∈l,AG n x)(hr:kI 0 l):sI n (oD l) l.length:=by
 have:=sI.fold (n:=n) l (sI.zero n) h hr;rw[yyd]at this
 exact this
def WX(l:List eF):(oD l).aw=mN 0 l:=by
 suffices h:∀(l:List eF) (a:eF),(l.foldl jn a).aw=mN a.aw l from h l sY
 intro l;induction l with
 | nil=>intro a;rfl
 | cons x l ih=>intro a;exact ih (jn a x)
def sI.may{n k:Nat}{a:eF}(h:sI n a k)(hk:0<k)(Kz:k<=64):jE a=true/\wH n a=true:=by
 have h1:=h.pos hk;have h2:=h.l1;have h3:=h.len;have h4:=h.mO;refine⟨tC.2 ⟨⟨h1,h2,by omega,by omega⟩,h.ops,h.Mf⟩,?_⟩;unfold wH;rw[zz5];exact λo ho=>zzm (h.sD o ho)
structure km where
 k:gF
 L:List eF
 out:Nat
 ll:Int
 kB:Int
 held:eF
 n:Nat
structure jD where
 cap:Nat
 fW:Nat
 b:Int
 m:Int
 j:Int
def km.ready(s:km)(now:Int):Bool:=if 0<s.n then decide (s.kB<=now) else decide (0<s.L.length)
def km.hold(s:km)(fW:Nat):km:=if s.n=0 then {s with L:=s.L.drop fW,out:=s.out+min fW s.L.length,held:=oD (s.L.take fW),n:=min fW s.L.length} else s
def km.hand(c:jD)(s:km)(now draw:Int):km × Int × Int:=
 if (s.k.kR s.held).2=0 then ({s with k:=(s.k.kR s.held).1,out:=s.out-tq s.n s.out,ll:=0,kB:=0,held:=sY,n:=0},6,0)
 else if (s.k.kR s.held).2=9 then ({s with k:=(s.k.kR s.held).1,ll:=s.ll+1,kB:=vU now+vJ (s.ll+1) c.b c.m c.j draw},7,0)
 else ({s with k:=(s.k.kR s.held).1},0,(s.k.kR s.held).2)
def km.step(c:jD)(s:km)(now draw:Int):km × Int × Int:=if s.ready now=true then (s.hold c.fW).hand c now draw else (s,0,0)
structure uw(c:jD)(gw:Nat)(s:km)(f:Nat):Prop where
 Dc:1<=c.cap
 cap:c.cap<=64
 Bf:1<=c.fW
 fW:c.fW<=64
 it:∀x∈s.L,AG gw x
 od:kI 0 s.L
 room:s.L.length+s.out<=c.cap
 out:s.out=s.n
 held:(s.n=0/\s.held=sY)\/(0<s.n/\sI gw s.held s.n)
 f0:0<=s.ll
 f1:s.ll<=f
def uw.mono{c:jD}{gw f f':Nat}{s:km}(h:uw c gw s f)(hf:f<=f'):uw c gw s f':=⟨h.Dc,h.cap,h.Bf,h.fW,h.it,h.od,h.room,h.out,h.held,h.f0,by have:=h.f1;omega⟩
def kI.take{b:Int}{l:List eF}(h:kI b l)(i:Nat):kI b (l.take i):=(kI.append.1 ((yyl i l).symm▸h:kI b (l.take i++l.drop i))).1
def kI.drop{b:Int}{l:List eF}(h:kI b l)(i:Nat):kI b (l.drop i):=by
 have:=kI.append.1 ((yyl i l).symm▸h:kI b (l.take i++l.drop i));exact this.2.mono this.1.last
def uw.hold{c:jD}{gw f:Nat}{s:km}(h:uw c gw s f){now:Int}(hr:s.ready now=true):uw c gw (s.hold c.fW) f/\0<(s.hold c.fW).n:=by
 have h1:=h.room;have h2:=h.out;have h3:=h.cap;have h4:=h.Bf;unfold km.hold;by_cases hn:s.n=0
 ·rw[zzc hn];unfold km.ready at hr;rw[zzb (by omega),zzx]at hr
  have hj:=F8 (n:=gw) (l:=s.L.take c.fW) (λx hx=>h.it x (yyn hx)) (h.od.take _);rw[zzf]at hj
  refine⟨⟨h.Dc,h.cap,h.Bf,h.fW,λx hx=>h.it x (vvs hx),h.od.drop _,?_,?_,.inr ⟨?_,hj⟩,h.f0,h.f1⟩,?_⟩
  ·show (s.L.drop c.fW).length+(s.out+min c.fW s.L.length)<=c.cap;rw[zzq];omega
  ·show s.out+min c.fW s.L.length=min c.fW s.L.length;omega
  ·show 0<min c.fW s.L.length;omega
  show 0<min c.fW s.L.length;omega
 rw[zzb hn];exact⟨h,by omega⟩
structure jI where
 tables:Int
 late:Int
 size:Int
 queue:Int
 chunk:Int
 batch:Int
 base:Int
 fW:Int
 wy:Int
 every:Int
def q_(c:jI):Γ:=[.int .i64 c.tables,.int .i64 c.late,.int .i64 c.size,.int .i64 c.queue,.int .i64 c.chunk,.int .i64 c.batch,.int .i64 c.base,.int .i64 c.fW,.int .i64 c.wy,.int .i64 c.every]
def b_v(c:jI):∀v∈q_ c,v.oneCell'=true:=by simp[q_,Value.oneCell']
def xQ(j:Nat):Int:=([64,128,256,1024]:Ξ)[j]!
def bFa{j:Nat}(h:j<4):([.int .i64 64,.int .i64 128,.int .i64 256,.int .i64 1024]:Γ)[0+j*1]?=some (.int .i64 (xQ j)):=by
 match j,h with
 | 0,_=>rfl
 | 1,_=>rfl
 | 2,_=>rfl
 | 3,_=>rfl
def bFb{j:Nat}(h:j<4):64<=xQ j/\xQ j<=1024:=by
 match j,h with
 | 0,_=>decide
 | 1,_=>decide
 | 2,_=>decide
 | 3,_=>decide
def EY(c:jI):jI:=
 ⟨1+(md c.tables 4:Int),(md c.late (2 ^ (1+md c.tables 4)):Int),xQ (md c.size 4),1+(md c.queue 5:Int),1+(md c.chunk 4:Int),1+(md c.batch 4:Int),1+(md c.base 4:Int),1+(md c.base 4:Int)+(md c.fW 12:Int),(md c.wy 4:Int),1+(md c.every 8:Int)⟩
def QQ{a:Int}{k:IntKind}{n:Nat}{K:Ω->Prop}(hn:n<=60)(hr : -9223372036854775808<=a*2 ^ n/\a*2 ^ n<=9223372036854775807)(h:K (.int .i64 (a*2 ^ n))):zc .shl (.int .i64 a) (.int k (n:Int)) K:=by
 refine⟨.int .i64 (a*2 ^ n),?_,h⟩;have Co:min n 64=n:=xxn (by omega);show (if ((n:Nat):Int)<0 then none else some (Value.int .i64 (IntKind.i64.wrap (a*2 ^ (min ((n:Nat):Int).toNat 64)))))=_;rw[zzb (by omega),zzv,Co,wwb _ hr]
def fWb{j:IntKind}{n:Nat}{K:Ω->Prop}(hr:n<=9223372036854775807)(h:K (.int .u64 (n:Int))):zJ .u64 (.int j (n:Int)) K:=zW (by rw[show IntKind.u64.wrap (n:Int)=n by rw[wwx];omega];exact h)
def mz(v n:Int):Int:=(md v n.toNat:Int)
def e_p(v n:Int)(h:0<n/\n<=9223372036854775807):SP 15 [.int .i64 v,.int .i64 n] [] (e_ (.int .i64 (mz v n)) []):=by
 have:=yj v n.toNat (by omega) (by omega);rw[show ((n.toNat:Nat):Int)=n by omega]at this
 exact this
def fWr{b o len cap sz:Nat}{k:IntKind}{j:Int}{K:Ω->Prop}(h0:0<=j)(hj:j<len)(h:K (.pointer (some ⟨b,o+j.toNat*sz,none⟩))):zl sz (.slice (some ⟨b,o,none⟩) len cap) (.int k j) K:=by
 obtain⟨m,rfl⟩:∃m:Nat,j=m:=⟨j.toNat,by omega⟩;rw[zzv]at h
 exact zF (by omega) h
def bw9{j:Int}(h0:0<=j)(h:j<4):([.int .i64 64,.int .i64 128,.int .i64 256,.int .i64 1024]:Γ)[0+j.toNat*1]?=some (.int .i64 (xQ j.toNat)):=bFa (by omega)
set_option maxHeartbeats 4000000 in
def qe(c:jI):SP 7 [agg (q_ c)] [] (e_ (agg (q_ (EY c))) []):=by
 refine Enzz λW F w hS=>?_;apply vc7;delta SQ a_ aR ai iU;refine zw hS λcb w hS=>?_;unfold q_ at hS;refine Gb λxb w hS=>?_;obtain⟨ct,cl,cs,cq,cc,xO,Dd,cm,cj,ce⟩:=c;simp only at hS;have h1:=mj ct 4 (by decide);have h2:=mj cs 4 (by decide);have h3:=mj cq 5 (by decide);have h4:=mj cc 4 (by decide);have h5:=mj xO 4 (by decide);have h6:=mj Dd 4 (by decide);have h7:=mj cm 12 (by decide);have h8:=mj cj 4 (by decide);have h9:=mj ce 8 (by decide);have g1:0<=mz ct 4/\mz ct 4<4:=⟨vvm _,by show (md ct 4:Int)<4;omega⟩;have g2:0<=mz cs 4:=vvm _;have UM:mz cs 4<((4:Nat):Int):=by show (md cs 4:Int)<4;omega
 have cRp:mz cs 4<4:=UM;have g3:0<=mz cq 5/\mz cq 5<5:=⟨vvm _,by show (md cq 5:Int)<5;omega⟩;have g4:0<=mz cc 4/\mz cc 4<4:=⟨vvm _,by show (md cc 4:Int)<4;omega⟩;have g5:0<=mz xO 4/\mz xO 4<4:=⟨vvm _,by show (md xO 4:Int)<4;omega⟩;refine⟨λus w=>∃yb:Nat,us=[.pointer (some ⟨yb,0,none⟩)]/\SL W (.pt yb [.int .i64 (1+mz ct 4),.int .i64 0,.int .i64 (xQ (mz cs 4).toNat),.int .i64 (1+mz cq 5),.int .i64 (1+mz cc 4),.int .i64 (1+mz xO 4),.int .i64 0,.int .i64 0,.int .i64 0,.int .i64 0] 23 ::
   .pt xb [.int .i64 0,.int .i64 0,.int .i64 0,.int .i64 0,.int .i64 0,.int .i64 0,.int .i64 0,.int .i64 0,.int .i64 0,.int .i64 0] 23::.pt cb [.int .i64 ct,.int .i64 cl,.int .i64 cs,.int .i64 cq,.int .i64 cc,.int .i64 xO,.int .i64 Dd,.int .i64 cm,.int .i64 cj,.int .i64 ce] 23::F) w,?_,?_⟩
 ·repeat' (first
   | refine Gp ?_
   | refine Gw λw hS=>?_
   | refine Gb λb w hS=>?_
   | ((with_reducible refine yE (e_p _ _ (by decide)) hS (.nil) ?_);clear hS;(rintro v post ⟨rfl,rfl⟩ w hS);(try simp only[app]at hS))
   | (with_reducible refine fWr (by assumption) (by assumption) ?_)
   | (with_reducible refine zV hS (t:=3) Xh (bw9 (by assumption) (by assumption)) ?_)
   | with_reducible refine And.intro ?_ ?_
   | exact⟨_,rfl,aW hS⟩)
 clear hS;rintro _ w ⟨yb,gW,hS⟩;cases gW;clear g1 g2 UM cRp g3 g4 g5;have hS:SL W (.pt yb [.int .i64 (1+(md ct 4:Int)),.int .i64 0,.int .i64 (xQ (md cs 4)),.int .i64 (1+(md cq 5:Int)),.int .i64 (1+(md cc 4:Int)),.int .i64 (1+(md xO 4:Int)),.int .i64 0,.int .i64 0,.int .i64 0,.int .i64 0] 23::_) w:=hS;refine Gp ?_;rw[show (1:Int)+(md ct 4:Int)=((1+md ct 4:Nat):Int) by omega]at hS ⊢
 refine fWb (by omega) ?_;have hp:2 ^ (1+md ct 4)<=16:=vvx (by decide) (show 1+md ct 4<=4 by omega);have A9:0<2 ^ (1+md ct 4):=Nat.pow_pos (by decide);have V2:(1:Int)*2 ^ (1+md ct 4)=((2 ^ (1+md ct 4):Nat):Int):=by simp
 refine QQ (by omega) (by rw[V2];omega) ?_;rw[V2];have rQ:=mj cl (2 ^ (1+md ct 4)) A9;have e:EY ⟨ct,cl,cs,cq,cc,xO,Dd,cm,cj,ce⟩=⟨((1+md ct 4:Nat):Int),(md cl (2 ^ (1+md ct 4)):Int),xQ (md cs 4),1+(md cq 5:Int),1+(md cc 4:Int),1+(md xO 4:Int),1+(md Dd 4:Int),1+(md Dd 4:Int)+(md cm 12:Int),(md cj 4:Int),1+(md ce 8:Int)⟩:=by
  unfold EY;simp only;rw[show (1:Int)+(md ct 4:Int)=((1+md ct 4:Nat):Int) by omega]
 rw[e];generalize hP:2 ^ (1+md ct 4)=P at *
 refine Cg (yj cl P A9 (by omega)) λw hS=>?_;refine Cg (zO Dd 4 (by decide) (by decide)) λw hS=>?_;refine Cg (zO cm 12 (by decide) (by decide)) λw hS=>?_;refine Cg (zO cj 4 (by decide) (by decide)) λw hS=>?_;refine Cg (zO ce 8 (by decide) (by decide)) λw hS=>?_;(exact dW hS)
structure lZ where
 kind:Int
 n:Int
 sg:Θ
 l:List jB
 ft:kY
 keep:Ξ
instance (a b:kY):Decidable (a=b):=decidable_of_iff (a.kind=b.kind/\a.keep=b.keep) (by obtain⟨a1,a2⟩:=a;obtain⟨b1,b2⟩:=b;simp)
def XW{α β:Type}(f:α->β):∀l:List α,(l.map λs=>[f s]).flatten=l.map f
 | []=>rfl
 | a::l=>by rw[zzn,zz4,XW f l];rfl
def oS:kY:=⟨0,0⟩
structure sN where
 kind:Int
 n:Int
 sv:Ω
 cv:Ω
 ft:kY
 kv:Ω
def oy(x:sN):Γ:=[.int .i64 x.kind,.int .i64 x.n,x.sv,x.cv,.int .i64 x.ft.kind,.int .i64 x.ft.keep,x.kv]
def Dm(x:sN):(oy x).length=7:=rfl
structure pq(H:bw)(x:sN)(s:lZ):Prop where
 kind:x.kind=s.kind
 n:x.n=s.n
 ft:x.ft=s.ft
 sv:iD H 1 x.sv s.sg.length (s.sg.map Value.string)
 cv:iD H 4 x.cv s.l.length (s.l.map kQ).flatten
 kv:iD H 1 x.kv s.keep.length (s.keep.map (Value.int .i64))
def pq.mono{H H':bw}(hh:H.le H'){x:sN}{s:lZ}(h:pq H x s):pq H' x s:=⟨h.kind,h.n,h.ft,h.sv.mono hh,h.cv.mono hh,h.kv.mono hh⟩
def GS(H:bw)(v:Ω)(l:List lZ):Prop:=∃xs:List sN,xs.length=l.length/\iD H 7 v l.length (xs.map oy).flatten/\∀i (h:i<l.length) (h':i<xs.length),pq H xs[i] l[i]
def eIo(l:Ξ):Bool:=l.all λk=>decide (0<=k/\k<=2147483647)
def eW3(s:lZ):Bool:=
 decide ((1<=s.kind/\s.kind<=8)/\(0<=s.n/\s.n<=1125899906842624)/\(s.n=0\/s.kind=2\/s.kind=4\/s.kind=5\/s.kind=7)/\(s.ft=oS\/s.kind=3)/\(s.sg.length=0\/s.kind=1)/\(s.l.length=0\/s.kind=1)/\(s.keep.length=0\/s.kind=8)/\(s.kind=3->nc s.ft=true/\s.ft.keep<=2147483647)/\s.keep.length<=64) && jC ⟨1,1,s.l,s.sg,0⟩ && eIo s.keep
def eW4(l:List lZ):Bool:=l.all eW3 && decide (l.length<=1000)
def aws(x:(Int × List lZ) × ig):Prop:=(x.2.bad=false/\x.2.l=[])/\eW4 x.1.2=true
instance (x:(Int × List lZ) × ig):Decidable (aws x):=by unfold aws;infer_instance
