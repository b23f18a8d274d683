/- Part. -/
import Derived.Test.YthohmpdacdmclaaGreatDoorJ10
import Derived.Lib.Overlaps
namespace Go.Proofs.YthohmpdacdmclaaGreatDoor
set_option linter.all false
set_option maxRecDepth 100000
open Go.RowKit Go.Proofs.Tryz
def xx6:=@underlying115
def uuy:=@List.all_eq_false
def uuw:=@underlying305
def uun:=@List.find?_cons
def uup:=@List.flatMap_append
def uuj:=@List.length_eraseIdx
def uuq:=@Nat.mul_le_mul_left
def kY(b:Nat)(cs:Ξ)(t:Ι):zC:=λh=>h=a_.one b (.cells cs.toArray t (0,0))
section
variable {W w:Ζ} {l l':Β} {P:Program}
def kY.pD{b:Nat}{cs:Ξ}{t:Ι}(h:SL W l w)(m:Has (.ob (kY b cs t)) l):w.heap[b]?=some (.cells cs.toArray t (0,0)):=by
 obtain⟨k,s,x⟩:=h.out;obtain⟨h1,e,le⟩:=m.heap s;have e:h1=a_.one b (.cells cs.toArray t (0,0)):=e;subst e;exact x b _ (le b _ (by simp[a_.one]))
def kY.cell{b o:Nat}{cs:Ξ}{t:Ι}{v:Ε}(h:SL W l w)(m:Has (.ob (kY b cs t)) l)(hv:cs[o]?=some v):w.cell? ⟨b,o,none⟩=some v:=by
 simp[World.cell?,kY.pD h m,hv]
def bww{z cells:Ξ}{ps:List (Nat × Nat × Ε)}{e:Ι}{n:Nat}{K:Ε->Ζ->Prop}(hS:SL W l w)(hc:gT z ps=some cells)
  (h:∀b w',SL W (.ob (kY b cells e)::l) w'->K (.slice (some ⟨b,0,none⟩) n n) w'):zm z ps e n w K:=⟨cells,hc,h _ _ (hS.alloc (c:=.ob (kY w.heap.size cells e)) rfl)⟩
def Y1{dT sT ty elem tt:Ι}{b o Hs RN m Ke WJ sz:Nat}{a:Addr}{cs cd:Ξ}{K:Ε->Ζ->Prop}(hS:SL W l w)(hu:P.underlying dT=some (.slice elem))(hs:(P.info? elem).map (·.size)=some sz)
  (hm:Nat.min Ke Hs=m) (hl:cs.length=m*sz) (gK:∀j v,cs[j]?=some v->w.cell? (a.add j)=some v) (u:fg (.pt b cd tt) (.pt b (cd.take o++cs++cd.drop (o+cs.length)) tt) l l') (ho:o+cs.length<=cd.length) (h1:∀v∈cs,v.oneCell'=true)
  (h:∀v w',SL W l' w'->K v w'):zQ P (Builtin.copy_ #[dT,sT] ty #[.slice (some ⟨b,o,none⟩) Hs RN,.slice (some a) Ke WJ]) w K:=by
 have tY:=ww3 (P:=P) w a cs gK;have gx:∀j,j<cs.length->∃v,cd[o+j]?=some v:=λj hj=>⟨_,zzd (by omega)⟩;have eN:=run_storeCells_cells (P:=P) b o cs 0 w (λj hj=>by obtain⟨v,hv⟩:=gx j hj;rw[xxy,hS.cell u.has hv];rfl) (λj hj=>by obtain⟨v,hv⟩:=gx j hj;rw[xxy];exact hS.frozen u.has hv) h1;simp only[xxy]at eN;have hr:(Builtin.copy_ #[dT,sT] ty #[.slice (some ⟨b,o,none⟩) Hs RN,.slice (some a) Ke WJ]).run P w= .ok (goInt m) (w.setCells b o cs):=by
  cases hq:P.info? elem with
  | none=>simp[hq]at hs
  | some i=>
   have hi:i.size=sz:=by simpa [hq] using hs
   simp[Builtin.copy_,zzu hu,Builtin.lenOf,Builtin.firstCells,sizeOf,typeInfo,hq,hi,hm,<- hl,tY,eN]
 exact⟨_,_,hr,h _ _ (SL.Xn hS u ho)⟩
def bwx{ty t e:Ι}{a:Option Addr}{n c:Nat}{K:Ε->Prop}(ht:P.underlying t=some (.slice e))(h:K (Γ c)):dP P (Builtin.cap_ #[t] ty #[.slice a n c]) w K:=
 ⟨_,by simp[Builtin.cap_,zzu ht,goInt],h⟩
end
def Tryz.bmn:(prog.info? 182).map (λi=>(i.zero.map (λz=>z.cells.toList),i.size,i.bytes))=some (some [Γ 0,.string ⟨#[]⟩],2,24):=by kernel_rfl
def Tryz.bKx:(prog.info? 182).map (λi=>i.zero)=some (some (.agg #[Γ 0,.string ⟨#[]⟩])):=by kernel_rfl
def bze(w:Ζ):(sizeOf 182).run prog w= .ok 2 w:=by kernel_rfl
def br1{W w:Ζ}{l:Β}{vb b o m vc lb cb:Nat}{cv cs:Ξ}{K:Ε->Ζ->Prop}(hS:SL W l w)(h1:Has (.ob (kY vb cv 182)) l)(h2:Has (.pt b cs 182) l)(cY:vb≠b)(gU:cs.length≠0)
  (h:K (.bool false) w):Qi prog 313 [.slice (some ⟨vb,0,none⟩) m vc,.slice (some ⟨b,o,none⟩) lb cb] w K:=by
 have e1:=kY.pD hS h1;obtain⟨f,hf,e2⟩:=hS.pD h2;have hsa:w.shape? vb=some (182,cv.length):=by simp[World.shape?,e1]
 have hsb:w.shape? b=some (182,cs.length):=by simp[World.shape?,e2]
 have hz:∀x:Addr,x.block=vb->w.frozen? x=false:=λx hx=>by simp only[World.frozen?,hx,e1];simp
 have hr:=Go.Lib.run_overlaps_apart (P:=prog) w 115 4 182 xx6 2 bze ⟨vb,0,none⟩ ⟨b,o,none⟩ m vc lb cb cY 182 182 cv.length cs.length hsa hsb gU (hz _ rfl) (hz _ rfl);refine⟨.bool false,w,?_,h⟩;have:=run_callFunc_extern func313 (by kernel_rfl) (by kernel_rfl) (by kernel_rfl) (e:=Extern.SlicesOverlaps.overlaps #[115,115] #[4]) (by kernel_rfl) #[.slice (some ⟨vb,0,none⟩) m vc,.slice (some ⟨b,o,none⟩) lb cb] w;rw[this,hr];rfl
def kY.ne{W w:Ζ}{l:Β}{b vb:Nat}{cs cv:Ξ}{t t':Ι}(h:SL W (.pt b cs t::.ob (kY vb cv t')::l) w):vb≠b:=by
 rintro rfl;obtain⟨k,⟨h1,h2,s,⟨f,_,rfl⟩,h3,h4,s',e,r⟩,m⟩:=h.out;have e:h3=a_.one vb (.cells cv.toArray t' (0,0)):=e;subst e;rcases s vb with ⟨a,_⟩|⟨a,_⟩
 ·simp[a_.one]at a
 rcases s' vb with ⟨c,_⟩|⟨_,c⟩
 ·simp[a_.one]at c
 rw[a]at c;simp[a_.one]at c
def J'(A E x:Ξ):(A++E).take A.length++x++(A++E).drop (A.length+x.length)=A++x++E.drop x.length:=by
 rw[wwg,<- ww5,wwv]
def btx(A E D:Ξ)(k:Nat)(hk:k<=E.length):(A++E).take (A.length+k)++D++(A++E).drop (A.length+k+D.length)=A++(E.take k++D++E.drop (k+D.length)):=by
 rw[yy9,vvy,<- ww5 (l:=A++E),wwv];simp
def qx(v:Ε)(n i vb:Nat)(cells x:Ξ)(hi:i<=n)(hx:x.length=2)(gf:∀v∈cells,v.oneCell'=true)(lQ:∀v∈x,v.oneCell'=true)(hn:n<=1000000):
  SP 271 [v,Γ (i:Int),.slice (some ⟨vb,0,none⟩) 1 1] [.ob (bd v 182 2 n cells),.ob (kY vb x 182)] (λu post=>post=[.ob (bd u 182 2 (n+1) (cells.take (i*2)++x++cells.drop (i*2)))]):=by
 refine Enzz λW F w hS=>?_;apply bGq;delta aI bJ ai bK;have gK:∀{l:Β} {w:Ζ},SL W l w->Has (.ob (kY vb x 182)) l->∀j u,x[j]?=some u->w.cell? ((⟨vb,0,none⟩:Addr).add j)=some u:=λh m j u e=>by
  rw[zz9,yyd];exact kY.cell h m e
 have e_:i=n->zt 2 24 [Γ 0,.string ⟨#[]⟩] 182 v (.slice (some ⟨vb,0,none⟩) 1 1) w λu w=>∃post,(post=[.ob (bd u 182 2 (n+1) (cells.take (i*2)++x++cells.drop (i*2)))])/\SL W (app post F) w:=λe=>by
  subst e;obtain⟨_,_,_,hlen,_⟩:=bd.at hS Xh;refine zL (n:=i) (m:=1) hS Xr ⟨rfl,hx,gK hS Xh⟩ (by omega) rfl lQ (by omega) (by omega) ?_;clear hS;intro u w hS;rw[zzz (by omega),xxb (by omega),zz3];exact⟨_,rfl,aR hS⟩
 rcases bd.open hS with ⟨⟨a,rfl⟩,rfl,rfl,_⟩|⟨b,cap,rest,rfl,om,hlen,iT,Tb⟩
 ·refine⟨a,0,0,i,0,0,rfl,rfl,rfl,⟨_,rfl⟩,hi,zzj _,zzj _,?_⟩;refine yg ?_;refine Gp ?_;refine Χ ?_;refine yg ?_;refine Gp ?_;exact za (λh=>e_ (by omega)) (λh=>by omega)
 refine⟨_,n,cap,i,n,cap,rfl,rfl,rfl,⟨_,rfl⟩,hi,om,zzj _,?_⟩;refine yg ?_;refine Gp ?_;refine Χ ?_;refine yg ?_;refine Gp ?_;refine za (λh=>e_ (by omega)) (λcY=>?_);clear e_ hS;have hS:=Tb;clear Tb;have jR:i<n:=by omega
 have hvb:=kY.ne hS;refine Gp ?_;refine bwx xx6 ?_;refine Gp ?_;obtain⟨A,hA⟩:∃A,A=cells.take (i*2):=⟨_,rfl⟩;obtain⟨D,hD⟩:∃D,D=cells.drop (i*2):=⟨_,rfl⟩;have EI:cells=A++D:=by rw[hA,hD,yyf]
 have oe:A.length=i*2:=by rw[hA,zzf];omega
 have EA:D.length=(n-i)*2:=by rw[hD,zzq];omega
 have S7:∀v∈D,v.oneCell'=true:=λv hv=>gf v (by rw[EI];exact xxl _ hv);rw[<- hA,<- hD];have fw:(prog.info? 182).map (·.size)=some 2:=by kernel_rfl
 refine za (λhg=>?_) (λhg=>?_)
 ·
  have Ts:cap=n:=by omega
  subst Ts;refine⟨_,cap,cap,0,i,cap,rfl,rfl,⟨_,rfl⟩,rfl,by omega,by omega,by omega,?_⟩;rw[zzb (show ¬cap=0 by omega)];simp only[yyo,zz9,vv8,xxy,wwh];refine Gp ?_;rw[show (((cap+1:Nat):Int)-(i:Int))=((cap+1-i:Nat):Int) by omega];cases hq:prog.info? 182 with
  | none=>rw[hq]at fw;cases fw
  | some ti=>
   have hI:=Tryz.bmn;rw[hq]at hI
   have hZ:=Tryz.bKx;rw[hq]at hZ
   simp only[yyo,Option.some.injEq,vvd]at hI hZ;obtain⟨_,h2,h3⟩:=hI;have hold:(Builtin.firstCells ti.size i (.slice (some ⟨b,0,none⟩) i cap)).run prog w.drew= .ok A.toArray w.drew:=by
    have hl:=ww3 (P:=prog) w.drew ⟨b,0,none⟩ A λj u hj=>by
     rw[zz9,yyd];refine hS.drew.cell .hd ?_;rw[EI,zzg,zzy (zzh.1 hj).1];exact hj
    rw[oe]at hl
    rw[h2];simp[Builtin.firstCells,hl]
   have oA:Builtin.nextslicecap (i+(cap+1-i)) cap*ti.bytes<=281474976710656:=growslice_fits (by omega) (by rw[h3];omega);have w8:=Go.Lib.run_append_grow_zeros (P:=prog) w 115 3 115 182 ti _ .i64 .i64 xx6 yyc hq hZ (some ⟨b,0,none⟩) i cap A hold (cap+1-i) (by omega) (by omega) (by omega) (by omega) (by rw[h3];omega) oA;refine⟨_,_,w8,?_⟩;generalize Tt:grownCap w (i+(cap+1-i)) cap 182=cp;have Cw:cap+1<=cp:=by
    have:=grownCap_ge w (i+(cap+1-i)) cap 182;omega
   have hz:∀k,Builtin.zeroCells (Value.cells (.agg #[Γ 0,.string ⟨#[]⟩])) k=(bE [Γ 0,.string ⟨#[]⟩] k).toArray:=λk=>by
    rw[<- KR (Value.cells (.agg #[Γ 0,.string ⟨#[]⟩])) [Γ 0,.string ⟨#[]⟩] rfl k,Array.toArray_toList]
   rw[hz,hz];obtain⟨E,hE⟩:∃E:Ξ,E=bE [Γ 0,.string ⟨#[]⟩] (cap+1-i)++bE [Γ 0,.string ⟨#[]⟩] (cp-(i+(cap+1-i))):=⟨_,rfl⟩;have hEl:E.length=(cp-i)*2:=by rw[hE,zza,kV,kV];simp;omega
   have e2:A.toArray++(bE [Γ 0,.string ⟨#[]⟩] (cap+1-i)).toArray++(bE [Γ 0,.string ⟨#[]⟩] (cp-(i+(cap+1-i)))).toArray=(A++E).toArray:=by rw[hE];simp
   rw[e2];have hS:=SL.new (cs:=A++E) (t:=182) hS.drew;clear w8 hold hz e2 hE;have E_:w.heap.size=w.drew.heap.size:=rfl;rw[E_];generalize w.drew.heap.size=nb at *
   generalize (w.drew.alloc (.cells (A++E).toArray 182))=w at *
   have ei:i+(cap+1-i)=cap+1:=by omega
   rw[ei];refine⟨_,cap+1,cp,i,cap+1,cp,rfl,rfl,rfl,⟨_,rfl⟩,by omega,Cw,zzj _,?_⟩;rw[zzb (show ¬cp=i by omega)];simp only[yyo,zz9,yyd];have e3:=J' A E x;rw[oe]at e3
   refine Y1 (tt:=182) (l':=.pt nb (A++x++E.drop x.length) 182::.pt b (cells++rest) 182::.ob (kY vb x 182)::F) hS xx6 fw (m:=1) (sz:=2) (xxd (by omega)) (by omega) (gK hS Xh) (by rw[e3];exact fg.hd) (by rw[zza];omega) lQ ?_;clear hS e3;intro _ w hS;refine Gn λw hS=>?_;refine⟨_,cap+1,cp,i+1,cap+1,cp,rfl,rfl,rfl,⟨_,rfl⟩,by omega,Cw,zzj _,?_⟩;rw[zzb (show ¬cp=i+1 by omega)];refine⟨_,cap,cap,i,cap,cap,rfl,rfl,rfl,⟨_,rfl⟩,by omega,zzj _,zzj _,?_⟩;rw[zzb (show ¬cap=i by omega)];simp only[yyo,zz9,yyd];have e4:=J' (A++x) (E.drop x.length) D;have e5:(A++x).length=(i+1)*2:=by rw[zza];omega
   rw[e5]at e4
   have S8:(E.drop x.length).length=E.length-2:=by rw[zzq,hx]
   refine Y1 (tt:=182) (l':=.pt nb (A++x++D++(E.drop x.length).drop D.length) 182::.pt b (cells++rest) 182::.ob (kY vb x 182)::F) hS xx6 fw (m:=cap-i) (sz:=2) (xxd (by omega)) EA (λj u hj=>?_) (by rw[e4];exact fg.hd) (by rw[zza,e5,S8];omega) S7 ?_
   ·rw[zz9];refine hS.cell (.tl .hd) ?_;rw[EI,zzg,yyk (by omega),oe,vvh,zzy (zzh.1 hj).1];exact hj
   clear hS e4;intro _ w hS;refine⟨_,rfl,SL.bo (bd.mk (sz:=2) (n:=cap+1) (cap:=cp) (cells:=A++x++D) (rest:=(E.drop x.length).drop D.length) Cw ?_ ?_ hS) Xi⟩
   ·rw[zza,e5];omega
   rw[zzq,S8];omega

 have AF:n+1<=cap:=by omega
 clear hg;have vw:2<=rest.length:=by rw[iT];omega
 refine Gp ?_;refine⟨_,n,cap,0,n+1,cap,rfl,rfl,⟨_,rfl⟩,rfl,by omega,by omega,by omega,?_⟩;rw[zzb (show ¬cap=0 by omega)];simp only[yyo,zz9,vv8,xxy,wwh];refine Gp ?_;refine⟨_,n+1,cap,i+1,n+1,cap,rfl,rfl,rfl,⟨_,rfl⟩,by omega,by omega,by omega,?_⟩;rw[zzb (show ¬cap=i+1 by omega)];simp only[yyo,zz9,yyd];refine br1 hS Xh Xh hvb (by rw[zza];omega) ?_;refine⟨_,rfl,?_⟩;refine zu ?_;refine Gn λw hS=>?_;refine⟨_,n+1,cap,i+1,n+1,cap,rfl,rfl,rfl,⟨_,rfl⟩,by omega,by omega,by omega,?_⟩;rw[zzb (show ¬cap=i+1 by omega)];refine⟨_,n+1,cap,i,n+1,cap,rfl,rfl,rfl,⟨_,rfl⟩,by omega,by omega,by omega,?_⟩;rw[zzb (show ¬cap=i by omega)];simp only[yyo,zz9,yyd];obtain⟨E,hE⟩:∃E,E=D++rest:=⟨_,rfl⟩;have hEl:E.length=(cap-i)*2:=by rw[hE,zza];omega
 have hAE:cells++rest=A++E:=by rw[EI,hE,zzg]
 rw[hAE]at hS
 have e3:=btx A E D 2 (by omega);rw[oe,show i*2+2=(i+1)*2 by omega]at e3
 refine Y1 (tt:=182) (l':=.pt b (A++(E.take 2++D++E.drop (2+D.length))) 182::.ob (kY vb x 182)::F) hS xx6 fw (m:=n-i) (sz:=2) (by simp only[Nat.min_def];split<;>omega) EA (λj u hj=>?_) (by rw[e3];exact fg.hd) (by rw[zza];omega) S7 ?_
 ·rw[zz9];refine hS.cell .hd ?_;rw[yyk (by omega),oe,vvh,hE,zzy (zzh.1 hj).1];exact hj
 clear hS e3;intro _ w hS;refine⟨_,n+1,cap,i,n+1,cap,rfl,rfl,rfl,⟨_,rfl⟩,by omega,by omega,by omega,?_⟩;rw[zzb (show ¬cap=i by omega)];simp only[yyo,zz9,yyd];have e4:=J' A (E.take 2++D++E.drop (2+D.length)) x;rw[oe,hx]at e4
 have Fh:(E.take 2).length=2:=by rw[zzf];omega
 have e5:(E.take 2++D++E.drop (2+D.length)).drop 2=D++E.drop (2+D.length):=by
  rw[zzg];have:=wwv (l₁:=E.take 2) (l₂:=D++E.drop (2+D.length))
  rwa [Fh]at this
 rw[e5]at e4
 refine Y1 (tt:=182) (l':=.pt b (A++x++(D++E.drop (2+D.length))) 182::.ob (kY vb x 182)::F) hS xx6 fw (m:=1) (sz:=2) (xxd (by omega)) (by omega) (gK hS Xh) (by rw[hx,e4];exact fg.hd) (by rw[zza,zza,zza,Fh,zzq];omega) lQ ?_;clear hS e4 e5;intro _ w hS;rw[<- zzg (A++x)]at hS
 refine⟨_,rfl,SL.bo (bd.mk (sz:=2) (n:=n+1) (cap:=cap) (cells:=A++x++D) (rest:=E.drop (2+D.length)) AF ?_ ?_ hS) Xi⟩
 ·rw[zza,zza];omega
 rw[zzq];omega
abbrev bx(b:Nat):Ε:=Δ b
def bxs{W w:Ζ}{l:Β}{α:Type}{enc:α->Ξ}{v u:Ε}{t:Ι}{sz j i:Nat}{k:IntKind}{xs:List α}{y:α}{K:Ζ->Prop}(hS:SL W (.ob (bd v t sz xs.length (xs.map enc).flatten)::l) w)(hn:∀x,(enc x).length=sz)
  (hj:j<xs.length) (hi:i<sz) (hy:(enc xs[j]).set i u=enc y) (h1:u.oneCell'=true) (hK:∀w',SL W (.ob (bd v t sz (xs.set j y).length ((xs.set j y).map enc).flatten)::l) w'->K w'):zl sz v (.int k (j:Int)) λp=>zk i p λq=>dj q u w K:=by
 rcases bd.open hS with ⟨_,h0,_⟩|⟨b,cap,rest,rfl,hc,hlen,iT,hS⟩
 ·omega
 have b9:j*sz+i<xs.length*sz:=by
  have:(j+1)*sz<=xs.length*sz:=yy3 _ hj;rw[yyv]at this;omega
 refine zI hj (yI ?_);rw[yyd];refine ZA hS .hd (zzd (by rw[zza];omega)) h1 λw' hS=>hK w' ?_;rw[www _ _ (by omega),HU hn xs j i hj y u hi hy]at hS
 have hl:(xs.set j y).length=xs.length:=yyl;rw[hl];refine bd.mk hc ?_ iT hS;rw[n_ hn,hl]
def bxy{W w:Ζ}{l:Β}{v:Ε}{t:Ι}{sz n k:Nat}{kk:IntKind}{cells:Ξ}{K:Ε->Prop}(h:SL W l w)(mm:Has (.ob (bd v t sz n cells)) l)(hk:k<=n)
  (hK:∀A c,n-k<=c->(∀m c' w' l',m<=n-k->SL W l' w'->Has (.ob (bd v t sz n cells)) l'->jw w' sz (.slice A m c') m ((cells.drop (k*sz)).take (m*sz)))->K (.slice A (n-k) c)):dQ sz v (some (.int kk (k:Int))) none none K:=by
 obtain⟨a,cap,rfl,hl,_⟩:=bd.at h mm;have om:n<=cap:=by
  obtain⟨l2,r⟩:=mm.rem;rcases bd.open (h.perm r.perm) with ⟨⟨a',e⟩,rfl,rfl,_⟩|⟨b,BR,rest,e,hc,_⟩
  ·cases e;omega
  cases e;exact hc
 refine⟨a,n,cap,k,n,cap,rfl,rfl,rfl,⟨kk,rfl⟩,hk,om,zzj _,hK _ _ (by omega) λm c' w' l' hm h' m'=>?_⟩;obtain⟨a',BR,e,_,hx⟩:=bd.at h' m';cases e;have ow:((cells.drop (k*sz)).take (m*sz)).length=m*sz:=by
  have:(k+m)*sz<=n*sz:=yy3 _ (by omega);rw[yyv]at this
  rw[zzf,zzq,hl];omega
 rcases yy8 m with rfl|hm0
 ·have:(cells.drop (k*sz)).take (0*sz)=[]:=by simp
  rw[this];generalize (if cap=k then a else a.map (·.add (k*sz)))=A;cases A with
  | none=>exact⟨rfl,rfl⟩
  | some p=>exact⟨rfl,by simp,λj v e=>by simp at e⟩
 obtain⟨b,rfl,h3⟩:=hx 0 (by omega);rw[zzb (show ¬cap=k by omega)];refine⟨rfl,ow,λj v e=>?_⟩;show w'.cell? (((⟨b,0,none⟩:Addr).add (k*sz)).add j)=some v;rw[zz9,zz9];refine h3 _ v ?_;rw[vv2]at e
 split at e
 ·rw[vvk]at e
  rw[yyd];exact e
 cases e
abbrev eI(v:Ε)(l:List Row):Μ:=.ob (bd v 182 2 l.length (l.map dV).flatten)
def SD{z v:Ε}(h:v.oneCell'=true):gT (bE [z] 1) [(0,1,v)]=some [v]:=by simp[gT,bE,ux h]
def uV(r:Row):∀v∈dV r,v.oneCell'=true:=by simp[dV,Value.oneCell']
def Ef(k:Int)(v:Η):dV ⟨k,v⟩=[Γ k,.string v]:=rfl
def dt(x:Nat × List Row):zC:=iX λv:Ε=>zF True [.pt x.1 [v] 345,eI v x.2]
def dt.iff{W w:Ζ}{b:Nat}{C:List Row}{l:Β}:SL W (.ob (dt (b,C))::l) w↔∃v,SL W (.pt b [v] 345::eI v C::l) w:=by
 unfold dt;simp only[SL.ex,SL.fact,zzn,zzo,uus]
def dt.put{W w:Ζ}{b:Nat}{C:List Row}{v:Ε}{l F:Β}(hS:SL W l w)(p:fK [.pt b [v] 345,eI v C] l F):SL W (.ob (dt (b,C))::F) w:=dt.iff.2 ⟨v,hS.pick p⟩
def qB(a:Int):SP 258 [Γ a] [] (bA (.bool false) []):=by
 refine Enzz λW F w hS=>?_;apply XX;refine Gp ?_;rw[show decide (a≠a)=false by simp];(exact bw hS)
def oR(a b:Int):Int:=if a<b then -1 else if b<a then 1 else 0
def RB{a b:Int}:oR a b<0↔a<b:=by unfold oR;split<;>(try split)<;>omega
def aWy{a b:Int}:oR a b=0↔a=b:=by unfold oR;split<;>(try split)<;>omega
def aW0(a b:Int):SP 209 [Γ a,Γ b] [] (bA (Γ (oR a b)) []):=by
 refine Enzz λW F w hS=>?_;apply XV;delta aI ai;refine Cg (qB a) λw hS=>?_;refine Cg (qB b) λw hS=>?_;refine za (λh=>?_) (λh=>?_)
 ·rw[show oR a b = -1 by unfold oR;rw[zzc h]];(exact bw hS)
 refine bj (λh2=>?_) (λh2=>?_)
 ·rw[show oR a b=1 by unfold oR;rw[zzb h,zzc h2]];(exact bw hS)
 rw[show oR a b=0 by unfold oR;rw[zzb h,zzb h2]];(exact bw hS)
def Yv(r:Row)(key:Int):SP 282 [agg (dV r),Γ key] [] (bA (Γ (oR r.key key)) []):=by
 obtain⟨rk,rv⟩:=r;refine Enzz λW F w hS=>?_;apply bG2;delta aW;refine zx hS λxb w hS=>?_;rw[Ef]at hS
 refine Gp ?_;refine Cg (aW0 rk key) λw hS=>?_;(exact bw hS)
def bxd{i j:Nat}{K:Ε->Prop}(h:i+j<=1000000000)(k:K (Γ (((i+j) / 2:Nat):Int))):zc .add (Γ i) (Γ j) λa=>zM .u64 a λb=>zc .shr b (.int .u64 1) λc=>zM .i64 c K:=by
 refine Zy (by omega) (zT ?_);rw[ww1,show ((i+j:Nat):Int) % 18446744073709551616=((i+j:Nat):Int) by omega];have e:((i+j:Nat):Int).fdiv (2 ^ (min (1:Int).toNat IntKind.u64.bits))=(((i+j) / 2:Nat):Int):=by
  rw[show (min (1:Int).toNat IntKind.u64.bits)=1 by decide,vvr _ (by decide)];omega
 refine⟨_,by simp only[iJ];rw[zzb (by decide)],?_⟩;rw[e];exact yz (by omega) k
def aRs(v:Ε)(C:List Row)(key:Int)(hs:ff C)(hn:C.length<=1000000):
  SP 281 [v,Γ key,.func (.func 282) #[] #[]] [eI v C] (λu post=>∃i,AtR C key i/\u= .tuple #[Γ (i:Nat),.bool (kL C key i)]/\post=[eI v C]):=by
 refine Enzz λW F w hS=>?_;apply bG1;delta aI ai;refine zy hS Xh ?_;refine⟨λus w=>∃i j:Nat,us=[Γ i,Γ j]/\i<=j/\j<=C.length/\(∀k (h:k<C.length),k<i->C[k].key<key)/\(∀h:j<C.length,key<=C[j].key)/\SL W (eI v C::F) w,
  λus _=>match us with|[.int _ i,.int _ j]=>(j-i).toNat|_=>0,⟨0,C.length,rfl,by omega,by omega,λk h hk=>by omega,λh=>by omega,hS⟩,?_⟩
 clear hS;rintro v9 v10 w ⟨i,j,bM,wM,hj,E7,Iy,hS⟩;cases bM;refine Dt ?_;refine za (λh=>?_) (λh=>?_)
 ·refine bxd (by omega) ?_;generalize hm:(i+j) / 2=m;have mT:i<=m/\m<j:=by omega
  clear hm;have mU:m<C.length:=by omega
  refine zX hS Xh iK (x:=C[m]) (by simp[mU]) mU ?_;refine⟨282,#[],#[],rfl,by decide,?_⟩;refine Cg (Yv C[m] key) λw hS=>?_;refine za (λh1=>?_) (λh1=>?_)
  ·have h1:=RB.1 h1;refine Gp ?_;refine⟨⟨m+1,j,rfl,by omega,hj,λk hk hkm=>?_,Iy,hS⟩,by dsimp only;omega⟩;rcases xxz k m with h2|h2
   ·have:=xxv.1 hs k m hk mU h2;omega
   obtain rfl:k=m:=by omega
   exact h1
  have h1:¬C[m].key<key:=λh2=>h1 (RB.2 h2);exact⟨⟨i,m,rfl,mT.1,by omega,E7,λ_=>by omega,hS⟩,by dsimp only;omega⟩
 obtain rfl:i=j:=by omega
 have hA:AtR C key i:=⟨hj,E7,Iy⟩;refine bj (λh1=>?_) (λh1=>?_)
 ·have bn:i<C.length:=by omega
  refine zX hS Xh iK (x:=C[i]) (by simp[bn]) bn ?_;refine⟨282,#[],#[],rfl,by decide,?_⟩;refine Cg (Yv C[i] key) λw hS=>?_;have e:decide (oR C[i].key key=0)=kL C key i:=by
   unfold kL;rw[yye,aWy];exact⟨λh=>⟨bn,h⟩,λ⟨_,h⟩=>h⟩
  rw[e];exact⟨_,⟨i,hA,rfl,rfl⟩,hS⟩
 have e:kL C key i=false:=zzx λ⟨h,_⟩=>h1 (by omega);rw[<- e];exact⟨_,⟨i,hA,rfl,rfl⟩,hS⟩
def qr(v:Ε)(n i:Nat)(cells:Ξ)(hi:i<n)(gf:∀v∈cells,v.oneCell'=true)(hb:n*24<=140737488355328)(hn:n<=140737488355328):
  SP 285 [v,Γ (i:Int),Γ ((i+1:Nat):Int)] [.ob (bd v 182 2 n cells)] (λu post=>post=[.ob (bd u 182 2 (n-1) (cells.take (i*2)++cells.drop ((i+1)*2)))]):=
 Hx (z:=[Γ 0,.string ⟨#[]⟩]) (zv:=.agg #[Γ 0,.string ⟨#[]⟩]) (λv0 v1 v2 w R h=>bG5 v0 v1 v2 w R h) xx6 (λw=>by kernel_rfl) rfl rfl (by simp[Value.oneCell']) v n i cells hi gf hb hn
def Ry(v:Ε)(C:List Row)(hn:C.length<=1000000):SP 96 [v] [eI v C] (λu post=>post=[eI u C,eI v C]):=
 aWv (λv0 w R h=>KG v0 w R h) rfl (by decide) (tc uV C) (n_ iK C) (by omega) (by omega)
section
variable (b:Nat) (C:List Row) (key:Int) (hs:ff C) (hn:C.length<=1000000)
include hs hn
def yL(v:Ε):SP 236 [bx b,Γ key] [.pt b [v] 345,eI v C] (λu post=>∃i,AtR C key i/\u= .tuple #[Γ (i:Nat),.bool (kL C key i)]/\post=[.pt b [v] 345,eI v C]):=by
 refine Enzz λW F w hS=>?_;apply bFw;delta bh;refine Gp ?_;refine Cc (aRs v C key hs hn) ?_;clear hS;rintro u post ⟨i,hA,rfl,rfl⟩ w hS;(try simp only[app]at hS);refine Gp ?_
 exact⟨_,⟨i,hA,rfl,rfl⟩,aR hS⟩
def YC(val:Η):SP 224 [bx b,Γ key,.string val] [.ob (dt (b,C))] (λu post=>(∃q,u= .bool q)/\post=[.ob (dt (b,fZ C ⟨key,val⟩))]):=by
 refine Enzz λW F w hS=>?_;apply bFj;delta bh bS br ai bK;obtain⟨v,hS⟩:=dt.iff.1 hS;refine Cc (yL b C key hs hn v) ?_;clear hS;rintro u post ⟨i,hA,rfl,rfl⟩ w hS;(try simp only[app]at hS);refine Gp ?_
 have hi:=hA.ins val;have hle:=hA.le;cases hk:kL C key i with
 | true=>
  rw[hk,zzc rfl]at hi
  obtain⟨bn,_⟩:=zzt hk;refine zu ?_;refine Gp ?_;refine bxs (enc:=dV) (y:=⟨key,val⟩) (Has.front hS (l2:=.pt b [v] 345::F) Xr) iK bn (by decide) ?_ rfl λw hS=>?_
  ·obtain⟨_,e⟩:=zzt hk;rw[<- e];rfl
  rw[hi];exact⟨_,⟨⟨_,rfl⟩,rfl⟩,dt.iff.2 ⟨v,aR hS⟩⟩
 | false=>
  rw[hk,zzb (by decide)]at hi
  refine zq ?_;(repeat refine Gp ?_)
  refine bww hS (SC (cs:=dV ⟨key,val⟩) rfl rfl) λvb w hS=>?_;refine Cc (qx v C.length i vb (C.map dV).flatten (dV ⟨key,val⟩) hle rfl (tc uV _) (uV _) hn) ?_;clear hS;rintro u post rfl w hS;try simp only[app]at hS
  have h1:=bd.one hS;refine Gn λw hS=>?_;have e:((C.map dV).flatten.take (i*2)++dV ⟨key,val⟩++(C.map dV).flatten.drop (i*2))=((fZ C ⟨key,val⟩).map dV).flatten:=by
   rw[hi,sM iK,uZ iK];simp
  have hl:C.length+1=(fZ C ⟨key,val⟩).length:=by rw[hi];simp;omega
  rw[e,hl]at hS
  exact⟨_,⟨⟨_,rfl⟩,rfl⟩,dt.iff.2 ⟨u,aR hS⟩⟩
def bk8:SP 242 [bx b,Γ key] [.ob (dt (b,C))] (λu post=>(∃q,u= .bool q)/\post=[.ob (dt (b,jo C key))]):=by
 refine Enzz λW F w hS=>?_;apply bF3;delta bh bS ai;obtain⟨v,hS⟩:=dt.iff.1 hS;refine Cc (yL b C key hs hn v) ?_;clear hS;rintro u post ⟨i,hA,rfl,rfl⟩ w hS;(try simp only[app]at hS);refine Gp ?_
 have hi:=hA.del hs;have hle:=hA.le;cases hk:kL C key i with
 | true=>
  rw[hk,zzc rfl]at hi
  obtain⟨bn,_⟩:=zzt hk;refine zu ?_;refine Gp ?_;refine Cc (qr v C.length i (C.map dV).flatten bn (tc uV _) (by omega) (by omega)) ?_;clear hS;rintro u post rfl w hS;try simp only[app]at hS
  have h1:=bd.one hS;refine Gn λw hS=>?_;have e:((C.map dV).flatten.take (i*2)++(C.map dV).flatten.drop ((i+1)*2))=((jo C key).map dV).flatten:=by
   rw[hi,sM iK,uZ iK];simp
  have hl:C.length-1=(jo C key).length:=by rw[hi,zza,zzf,zzq];omega
  rw[e,hl]at hS
  exact⟨_,⟨⟨_,rfl⟩,rfl⟩,dt.iff.2 ⟨u,aR hS⟩⟩
 | false=>
  rw[hk,zzb (by decide)]at hi
  refine zq ?_;rw[hi];exact⟨_,⟨⟨_,rfl⟩,rfl⟩,dt.iff.2 ⟨v,aR hS⟩⟩
def SS(o:Option Η):Ε:=.tuple #[.string (o.getD emp),.bool o.isSome]
def bmd:SP 174 [bx b,Γ key] [.ob (dt (b,C))] (bA (SS (dL C key)) [.ob (dt (b,C))]):=by
 refine Enzz λW F w hS=>?_;apply bEb;delta bh aW bJ;obtain⟨v,hS⟩:=dt.iff.1 hS;refine Cc (yL b C key hs hn v) ?_;clear hS;rintro u post ⟨i,hA,rfl,rfl⟩ w hS;(try simp only[app]at hS);refine Gp ?_
 obtain⟨Cv,pP⟩:=hA.get hs;cases hk:kL C key i with
 | true=>
  obtain⟨bn,e⟩:=zzt hk;refine zq ?_;refine Gp ?_;refine yw hS Xh iK (x:=C[i]) (by simp[bn]) bn (i:=1) rfl ?_;rw[pP bn e];exact⟨_,⟨rfl,rfl⟩,dt.iff.2 ⟨v,aR hS⟩⟩
 | false=>
  refine zu ?_;have e:dL C key=none:=by
   rw[hk]at Cv
   cases hg:dL C key with
   | none=>rfl
   | some x=>rw[hg]at Cv;cases Cv
  rw[e];exact⟨_,⟨rfl,rfl⟩,dt.iff.2 ⟨v,aR hS⟩⟩
def qv(n:Int)(h1 : -1000000<=n)(h2:n<=9000000000000000000):SP 251 [bx b,Γ key,Γ n] [.ob (dt (b,C))] (λu post=>post=[eI u (nj C key n),.ob (dt (b,C))]):=by
 refine Enzz λW F w hS=>?_;apply bGd;delta bh ai;obtain⟨v,hS⟩:=dt.iff.1 hS;refine Cc (yL b C key hs hn v) ?_;clear hS;rintro u post ⟨i,hA,rfl,rfl⟩ w hS;(try simp only[app]at hS);refine Gp ?_
 have ha:=hA.after hs n;have hle:=hA.le;obtain⟨k,hk⟩:∃k,k=if kL C key i=true then i+1 else i:=⟨_,rfl⟩
 rw[<- hk]at ha
 have mS:k<=C.length:=by
  rw[hk];split
  ·rename_i h;obtain⟨bn,_⟩:=zzt h;omega
  exact hle
 refine⟨λus w=>us=[Γ (k:Nat)]/\SL W (.pt b [v] 345::eI v C::F) w,?_,?_⟩
 ·cases hq:kL C key i with
  | true=>
   refine zu ?_;refine Gp ?_;exact⟨by rw[hk,hq,zzc rfl],aR hS⟩
  | false=>
   refine zq ?_;exact⟨by rw[hk,hq,zzb (by decide)],aR hS⟩
 clear hS;rintro v7 w ⟨bM,hS⟩;cases bM;refine Gp ?_;refine bxy hS Xh mS λA c hc gK=>?_;refine Gp ?_;obtain⟨m,hm⟩:∃m,m=min n.toNat (C.length-k):=⟨_,rfl⟩;have em:max (min n ((C.length-k:Nat):Int)) 0=((m:Nat):Int):=by omega
 rw[em];refine⟨A,C.length-k,c,0,m,c,rfl,rfl,⟨_,rfl⟩,rfl,zz6 _,by omega,zzj _,?_⟩;have eA:(if c=0 then A else A.map (·.add (0*2)))=A:=by
  split
  ·rfl
  cases A<;>simp[Addr.add]
 rw[eA,wwh,wwh];have ecs:((C.map dV).flatten.drop (k*2)).take (m*2)=((nj C key n).map dV).flatten:=by
  rw[uZ iK,sM iK,ha];congr 2;rcases xxz n.toNat (C.length-k) with h|h
  ·congr 1;omega
  rw[zzz (by rw[zzq];omega),zzz (by rw[zzq];omega)]
 have el:m=(nj C key n).length:=by rw[ha,zzf,zzq];omega
 have I_:∀v0 w R,BH 2 24 [Γ 0,.string ⟨#[]⟩] 182 182 v0 w R->aF 96 [v0] w R:=λv0 w R h=>KG v0 w R h;refine I_ _ _ _ (Hn (sz:=2) (gb:=24) (z:=[Γ 0,.string ⟨#[]⟩]) (t:=182) (ts:=182) (n:=m) (cs:=((nj C key n).map dV).flatten) ⟨A,c,rfl⟩ (λw' d h=>?_) (by rw[n_ iK,<- el]) rfl (by decide) (tc uV _) (by omega) (by omega) hS λu w hS=>?_)
 ·rw[<- ecs];exact gK m c w' _ (by omega) h (.tl Xh)
 rw[el]at hS
 exact⟨_,rfl,SL.bo (dt.put hS Xp) Xi⟩
end
def bk6(b:Nat)(C:List Row)(hn:C.length<=1000000):SP 263 [bx b] [.ob (dt (b,C))] (λu post=>post=[eI u C,.ob (dt (b,C))]):=by
 refine Enzz λW F w hS=>?_;apply bGm;delta bh;obtain⟨v,hS⟩:=dt.iff.1 hS;refine Gp ?_;refine Cc (Ry v C hn) ?_;clear hS;rintro u post rfl w hS;try simp only[app]at hS
 exact⟨_,rfl,SL.bo (dt.put hS Xp) Xi⟩
def bmf(b:Nat)(C:List Row):SP 173 [bx b] [.ob (dt (b,C))] (bA (Γ (C.length:Nat)) [.ob (dt (b,C))]):=by
 refine Enzz λW F w hS=>?_;apply bEa;delta bh;obtain⟨v,hS⟩:=dt.iff.1 hS;refine Gp ?_;refine zy hS Xh ?_;exact⟨_,⟨rfl,rfl⟩,dt.iff.2 ⟨v,aR hS⟩⟩
def YB(H:a_)(v:Ε)(l:List Row)(hv:cn H 2 v l.length (l.map dV).flatten)(hl:l.length<=100000):SP 155 [v] [.mem H] (λu post=>∃b,u=bx b/\post=[.ob (dt (b,na [] l)),.mem H]):=by
 refine Enzz λW F w hS=>?_;apply bDq;delta aI aW ai bK bc;refine Gp ?_;refine zx hS λxb w hS=>?_;have hS:SL W (eI Θ []::_) _:=bd.nil hS;have hS:SL W (.ob (dt (xb,[]))::.mem H::F) _:=dt.iff.2 ⟨_,aR hS⟩;refine zn hv ?_;refine⟨λus w=>∃i:Nat,us=[Γ i]/\i<=l.length/\SL W (.ob (dt (xb,na [] (l.take i)))::.mem H::F) w,λus _=>match us with|[.int _ i]=>(l.length-i).toNat|_=>0,⟨0,rfl,by omega,hS⟩,?_⟩;clear hS;rintro v10 w ⟨i,bM,hi,hS⟩;cases bM;refine bj (λh=>?_) (λh=>?_)
 ·have bn:i<l.length:=by omega
  have hp:=btv bn [];have eN:=Wp (l.take i) (C:=[]) List.Pairwise.nil;have Ax:=Wo (l.take i) [];rw[zzf,yyw]at Ax
  refine zB hS Xh iK hv (x:=l[i]) (by simp[bn]) bn ?_;generalize l[i]=r at *
  have hP:(na [] (l.take i)).length<=1000000:=by omega
  clear Ax;generalize na [] (l.take i)=P at *
  obtain⟨rk,rv⟩:=r;rw[Ef];refine Gm λb w hS=>?_;refine Cc (YC xb P rk eN hP rv) ?_;clear hS;rintro u post ⟨⟨q,rfl⟩,rfl⟩ w hS;(try simp only[app]at hS);refine Gp ?_
  rw[<- hp]at hS
  exact⟨⟨i+1,rfl,by omega,aR hS⟩,by dsimp only;omega⟩
 obtain rfl:i=l.length:=by omega
 rw[zz0]at hS
 exact⟨_,⟨xb,rfl,rfl⟩,aR hS⟩
def rG(p:Nat × List Row):Ξ:=[bx p.1]
def wv(p:Nat × List Row):(rG p).length=1:=rfl
abbrev jl(v:Ε)(L:List (Nat × List Row)):Μ:=.ob (bd v 269 1 L.length (L.map rG).flatten)
def dd(sp:Nat)(ts:List (List Row)):zC:=iX λx:Ε × List (Nat × List Row)=>zF (x.2.map Prod.snd=ts) [.pt sp [x.1] 220,jl x.1 x.2,.ob (zg dt x.2)]
def dd.iff{W w:Ζ}{sp:Nat}{ts:List (List Row)}{l:Β}:SL W (.ob (dd sp ts)::l) w↔∃v L,L.map Prod.snd=ts/\SL W (.pt sp [v] 220::jl v L::.ob (zg dt L)::l) w:=by
 unfold dd;simp only[SL.ex,SL.fact,zzn,zzo];exact⟨λ⟨x,h1,h2⟩=>⟨x.1,x.2,h1,h2⟩,λ⟨v,L,h1,h2⟩=>⟨(v,L),h1,h2⟩⟩
def dd.put{W w:Ζ}{sp:Nat}{v:Ε}{L:List (Nat × List Row)}{ts:List (List Row)}{l F:Β}(hL:L.map Prod.snd=ts)(hS:SL W l w)(p:fK [.pt sp [v] 220,jl v L,.ob (zg dt L)] l F):SL W (.ob (dd sp ts)::F) w:=dd.iff.2 ⟨v,L,hL,hS.pick p⟩
def uB{L:List (Nat × List Row)}{ts:List (List Row)}(h:L.map Prod.snd=ts):L.length=ts.length:=by rw[<- h,zzv]
def A_{L:List (Nat × List Row)}{ts:List (List Row)}(h:L.map Prod.snd=ts){i:Nat}(hi:i<ts.length):∃b,L[i]?=some (b,ts[i]):=by
 subst h;have hl:i<L.length:=by simpa using hi
 exact⟨L[i].1,by rw[zzd hl];simp⟩
def W9{L:List (Nat × List Row)}{ts:List (List Row)}(h:L.map Prod.snd=ts)(i:Nat)(b:Nat)(C:List Row):(L.set i (b,C)).map Prod.snd=ts.set i C:=by
 rw[<- h,vvj]
def one_set{L:List (Nat × List Row)}{i b:Nat}{C D:List Row}(h:L[i]?=some (b,C)):(L.set i (b,D)).map rG=L.map rG:=by
 refine xx2 (by simp) λj h1 h2=>?_;simp only[zzv,yyl]at h1;rw[xx9,xx9,xx8];split
 ·rename_i e;subst e;rw[zzd h1]at h
  rw[xx1 h];rfl
 rfl
def jl.set{W w:Ζ}{v:Ε}{L:List (Nat × List Row)}{i b:Nat}{C D:List Row}{l:Β}(h:L[i]?=some (b,C))(hS:SL W (jl v L::l) w):SL W (jl v (L.set i (b,D))::l) w:=by
 have e:=one_set (D:=D) h;have e2:(L.set i (b,D)).length=L.length:=yyl;unfold jl;rw[e,e2];exact hS
section
variable (sp:Nat) (ts:List (List Row))
def yy:SP 78 [bx sp] [.ob (dd sp ts)] (bA (Γ (ts.length:Nat)) [.ob (dd sp ts)]):=by
 refine Enzz λW F w hS=>?_;apply bJm;delta bh;obtain⟨v,L,hL,hS⟩:=dd.iff.1 hS;rw[<- uB hL];refine Gp ?_;refine zy hS Xh ?_;exact⟨_,⟨rfl,rfl⟩,SL.bo (dd.put hL hS Xp) Xi⟩
def yK(t:Int):SP 228 [bx sp,Γ t] [.ob (dd sp ts)] (bA (.bool (decide (0<=t/\t<ts.length))) [.ob (dd sp ts)]):=by
 refine Enzz λW F w hS=>?_;apply bFn;delta aI bh br ai;obtain⟨v,L,hL,hS⟩:=dd.iff.1 hS;have hl:=uB hL;refine bj (λh=>?_) (λh=>?_)
 ·refine Gp ?_;refine zy hS Xh ?_;refine Gp ?_;rw[show decide (0<=t/\t<(ts.length:Int))=decide (t<(L.length:Int)) from yye.2 ⟨λh=>by omega,λh=>by omega⟩];exact⟨_,⟨rfl,rfl⟩,SL.bo (dd.put hL hS Xp) Xi⟩
 rw[show decide (0<=t/\t<(ts.length:Int))=false from zzx λh=>by omega];exact⟨_,⟨rfl,rfl⟩,SL.bo (dd.put hL hS Xp) Xi⟩
def Gh{ts:List (List Row)}{t:Int}(h:¬(0<=t/\t<ts.length)):iG ts t=[]:=by
 unfold iG;split
 ·rfl
 rw[yyt (by omega)];rfl
def bBr(t:Int)(hn:∀C∈ts,C.length<=1000000):SP 212 [bx sp,Γ t] [.ob (dd sp ts)] (λu post=>post=[eI u (iG ts t),.ob (dd sp ts)]):=by
 refine Enzz λW F w hS=>?_;apply bFd;delta bh aW bJ bc;refine Cg (yK sp ts t) λw hS=>?_;refine zw (λh=>?_) (λh=>?_)
 ·rw[Gh (yyu h)];exact⟨_,rfl,bd.nil hS⟩
 obtain⟨h0,h1⟩:=zzt h;obtain⟨t,rfl⟩:∃n:Nat,t=n:=⟨t.toNat,by omega⟩;have ht:t<ts.length:=by omega
 rw[nS ts t ht];obtain⟨v,L,hL,hS⟩:=dd.iff.1 hS;obtain⟨b,hb⟩:=A_ hL ht;have hl:=uB hL;refine Gp ?_;refine yw hS Xh wv hb (by omega) (i:=0) rfl ?_;have hS:=zg.take (SL.bo hS (t:=.ob (zg dt L)::.pt sp [v] 220::jl v L::F) Xi) hb;refine Cc (bk6 b ts[t] (hn _ (zzk ht))) ?_;clear hS;rintro u post rfl w hS;try simp only[app]at hS
 have hS:=zg.back (SL.bo hS (t:=.ob (dt (b,ts[t]))::.ob (zg dt (L.eraseIdx t))::eI u ts[t]::.pt sp [v] 220::jl v L::F) Xi) hb;exact⟨_,rfl,SL.bo (dd.put hL hS Xp) Xi⟩
def qX(t key n:Int)(hn:∀C∈ts,C.length<=1000000)(hs:∀C∈ts,ff C)(h1 : -1000000<=n)(h2:n<=9000000000000000000):SP 197 [bx sp,Γ t,Γ key,Γ n] [.ob (dd sp ts)] (λu post=>post=[eI u (nj (iG ts t) key n),.ob (dd sp ts)]):=by
 refine Enzz λW F w hS=>?_;apply bEy;delta bh aW bJ bc;refine Cg (yK sp ts t) λw hS=>?_;refine zw (λh=>?_) (λh=>?_)
 ·rw[Gh (yyu h),show nj [] key n=[] by simp[nj]];exact⟨_,rfl,bd.nil hS⟩
 obtain⟨h0,h3⟩:=zzt h;obtain⟨t,rfl⟩:∃n:Nat,t=n:=⟨t.toNat,by omega⟩;have ht:t<ts.length:=by omega
 rw[nS ts t ht];obtain⟨v,L,hL,hS⟩:=dd.iff.1 hS;obtain⟨b,hb⟩:=A_ hL ht;have hl:=uB hL;refine Gp ?_;refine yw hS Xh wv hb (by omega) (i:=0) rfl ?_;have hS:=zg.take (SL.bo hS (t:=.ob (zg dt L)::.pt sp [v] 220::jl v L::F) Xi) hb;refine Cc (qv b ts[t] key (hs _ (zzk ht)) (hn _ (zzk ht)) n h1 h2) ?_;clear hS;rintro u post rfl w hS;try simp only[app]at hS
 have hS:=zg.back (SL.bo hS (t:=.ob (dt (b,ts[t]))::.ob (zg dt (L.eraseIdx t))::eI u (nj ts[t] key n)::.pt sp [v] 220::jl v L::F) Xi) hb;exact⟨_,rfl,SL.bo (dd.put hL hS Xp) Xi⟩
end
def Bz(n:Int)(u:Ε)(post:Β):Prop:=if n<1\/8<n then u= .tuple #[.pointer none,Γ 1]/\post=[] else ∃sp,u= .tuple #[bx sp,Γ 0]/\post=[.ob (dd sp (List.replicate n.toNat []))]
def Q9(n:Int):SP 103 [Γ n] [] (Bz n):=by
 refine Enzz λW F w hS=>?_;apply bCc;delta aI bS bg bk ai bT bc;refine Gp ?_;refine za (λh=>⟨[],by unfold Bz;rw[zzc (.inl h)];exact⟨rfl,rfl⟩,hS⟩) (λh1=>?_);refine Gp ?_;refine za (λh=>⟨[],by unfold Bz;rw[zzc (.inr h)];exact⟨rfl,rfl⟩,hS⟩) (λh2=>?_);refine Gp ?_;refine zx hS λsp w hS=>?_;have hS:SL W (jl Θ []::_) _:=bd.nil hS;have hS:SL W (.ob (zg dt [])::_) _:=zg.nil hS;refine⟨λus w=>∃(i:Nat) (v:Ε) (L:List (Nat × List Row)),us=[Γ i]/\i<=n/\L.map Prod.snd=List.replicate i []/\SL W (.pt sp [v] 220::jl v L::.ob (zg dt L)::F) w,
  λus _=>match us with|[.int _ i]=>(n-i).toNat|_=>0,⟨0,_,[],rfl,by omega,rfl,aR hS⟩,?_⟩
 clear hS;rintro KA w ⟨i,v,L,bM,hi,hL,hS⟩;cases bM;have hl:=uB hL;rw[xxm]at hl
 refine bj (λh=>?_) (λh=>?_)
 ·refine Gn λw hS=>?_;have hS:=SL.Vx hS;refine Cc (YB a_.emp Θ [] (cn.nil _ _) (by decide)) ?_;clear hS;rintro u post ⟨xb,rfl,rfl⟩ w hS;refine Gm λb w hS=>?_;refine yf (n:=L.length) (xs:=L) (y:=(xb,[])) (enc:=rG) hS Xr Xh wv (λx=>by simp[rG,Value.oneCell']) rfl (by omega) (by omega) λu w hS=>?_;have pX:=bd.one hS;refine Gn λw hS=>?_;refine⟨⟨i+1,u,L++[(xb,[])],rfl,by omega,by rw[zzr,hL,List.replicate_succ'];rfl,?_⟩,by dsimp only;omega⟩;have hS:=hS.nf (x:=(xb,([]:List Row)));rw[show na [] []=[] from rfl]at hS
  have hS:=zg.snoc (SL.bo hS (t:=.ob (zg dt L)::.ob (dt (xb,[]))::.pt sp [u] 220::jl u (L++[(xb,[])])::F) Xi);exact aR hS
 refine⟨[.ob (dd sp (List.replicate n.toNat []))],?_,SL.bo (dd.put (ts:=List.replicate n.toNat []) (by rw[hL];congr 1;omega) hS Xp) Xi⟩;unfold Bz;rw[zzb (by omega)];exact⟨sp,rfl,rfl⟩
def aIg{ts:List (List Row)}(h:∀C∈ts,ff C){c:da}(ht:gu ts.length c=true):∀C∈jB ts c,ff C:=λC hC=>by
 rcases JD hC with hC|rfl
 ·exact h C hC
 have h1:=h _ (Gg (zzt ht));unfold kz;split
 ·exact Xd h1 _
 exact Kj h1 _
def D1:∀{l:List da} {ts:List (List Row)},(∀C∈ts,ff C)->(∀c∈l,gu ts.length c=true)->∀C∈eZ ts l,ff C
 | [],ts,h,_=>h
 | c::l,ts,h,h2=>by
  show ∀C∈eZ (jB ts c) l,ff C;refine D1 (aIg h (h2 c (.head _))) λx hx=>?_;rw[v_];exact h2 x (.tail _ hx)
def bAv(b:Nat)(C D:List Row)(c:da)(hs:ff C)(hn:C.length<=1000000):SP 179 [agg (rG (b,D)),agg (eM c)] [.ob (dt (b,C))] (λ_ post=>post=[.ob (dt (b,kz C c))]):=by
 refine Enzz λW F w hS=>?_;apply bEg;delta aW;refine zx hS λxb w hS=>?_;refine zx hS λyb w hS=>?_;unfold eM rG at hS;obtain⟨ct,ck,cg,cv⟩:=c;refine Gp ?_;cases cg with
 | true=>
  refine zu ?_;refine Gp ?_;refine Cc (bk8 b C ck hs hn) ?_;clear hS;rintro u post ⟨⟨q,rfl⟩,rfl⟩ w hS;try simp only[app]at hS
  have hS:SL W (.ob (dt (b,kz C ⟨ct,ck,true,cv⟩))::_::_::F) _:=hS;exact⟨_,rfl,aR hS⟩
 | false=>
  refine zq ?_;refine Gp ?_;refine Cc (YC b C ck hs hn cv) ?_;clear hS;rintro u post ⟨⟨q,rfl⟩,rfl⟩ w hS;try simp only[app]at hS
  have hS:SL W (.ob (dt (b,kz C ⟨ct,ck,false,cv⟩))::_::_::F) _:=hS;exact⟨_,rfl,aR hS⟩
section
variable (sp:Nat) (ts:List (List Row)) (H:a_) (v:Ε) (l:List da) (hv:cn H 4 v l.length (l.map eM).flatten) (hl:l.length<=140737488351232)
include hv hl
def YT:SP 172 [bx sp,v] [.ob (dd sp ts),.mem H] (bA (.bool (l.all (gu ts.length))) [.ob (dd sp ts),.mem H]):=by
 refine Enzz λW F w hS=>?_;apply bD9;delta aI aW bJ br ai bK;refine zn hv ?_;refine⟨λus w=>∃i:Nat,us=[Γ i]/\i<=l.length/\(∀j (h:j<l.length),j<i->gu ts.length l[j]=true)/\SL W (.ob (dd sp ts)::.mem H::F) w,λus _=>match us with|[.int _ i]=>(l.length-i).toNat|_=>0,⟨0,rfl,by omega,λj h hj=>by omega,hS⟩,?_⟩;clear hS;rintro v9 w ⟨i,bM,hi,dh,hS⟩;cases bM;refine bj (λh=>?_) (λh=>?_)
 ·have bn:i<l.length:=by omega
  refine zB hS Xh pF hv (x:=l[i]) (by simp[bn]) bn ?_;have hq:gu ts.length l[i]=decide (0<=l[i].table/\l[i].table<(ts.length:Int)):=rfl;have hf:gu ts.length l[i]=false->l.all (gu ts.length)=false:=λh=>uuy.2 ⟨_,zzk bn,by rw[h];decide⟩;have Ij:gu ts.length l[i]=true->∀j (h:j<l.length),j<i+1->gu ts.length l[j]=true:=λh j hj gZ=>by
   by_cases e:j=i
   ·subst e;exact h
   exact dh j hj (by omega)
  clear dh;generalize l[i]=c at *
  obtain⟨ct,ck,cg,cv⟩:=c;refine Gm λb w hS=>?_;refine Cg (yK sp ts ct) λw hS=>?_;refine zw (λhb=>?_) (λhb=>?_)
  ·rw[hf (by rw[hq];exact hb)];(exact bw hS)
  refine Gp ?_;refine⟨⟨i+1,rfl,by omega,Ij (by rw[hq];exact hb),aR hS⟩,by dsimp only;omega⟩
 rw[show l.all (gu ts.length)=true from zz7.2 λc hc=>by
  obtain⟨j,hj,rfl⟩:=yyh hc;exact dh j hj (by omega)]
 (exact bw hS)
def ZP(hs:∀C∈ts,ff C)(N:Nat)(hn:∀C∈ts,C.length<=N)(hN:N+l.length<=1000000):SP 122 [bx sp,v] [.ob (dd sp ts),.mem H] (bA (.bool (l.all (gu ts.length))) [.ob (dd sp (if l.all (gu ts.length)=true then eZ ts l else ts)),.mem H]):=by
 refine Enzz λW F w hS=>?_;apply bCw;delta aI bh aW bJ br ai bK;refine Cg (YT sp ts H v l hv hl) λw hS=>?_;cases ha:l.all (gu ts.length) with
 | false=>
  refine zu ?_;rw[zzb (by decide)];(exact bw hS)
 | true=>
  refine zq ?_;rw[zzc rfl];have ha:=zz7.1 ha;refine zn hv ?_;refine⟨λus w=>∃i:Nat,us=[Γ i]/\i<=l.length/\SL W (.ob (dd sp (eZ ts (l.take i)))::.mem H::F) w,λus _=>match us with|[.int _ i]=>(l.length-i).toNat|_=>0,⟨0,rfl,by omega,hS⟩,?_⟩;clear hS;rintro Gj w ⟨i,bM,hi,hS⟩;cases bM;refine bj (λh=>?_) (λh=>?_)
  ·have bn:i<l.length:=by omega
   have eN:eZ ts (l.take (i+1))=jB (eZ ts (l.take i)) l[i]:=by rw[zze bn,P6]
   have jR:=ha _ (zzk bn);have ve:=tw ts (l.take i);have sR:=D1 (l:=l.take i) hs λc hc=>ha c (yyg hc);have wG:=D0 N (l:=l.take i) hn λc hc=>ha c (yyg hc);have lu:(l.take i).length<=l.length:=by rw[zzf];omega
   generalize eZ ts (l.take i)=T at *
   refine zB hS Xh pF hv (x:=l[i]) (by simp[bn]) bn ?_;generalize l[i]=c at *
   obtain⟨ct,ck,cg,cv⟩:=c;obtain⟨h0,h1⟩:0<=ct/\ct<(ts.length:Int):=zzt jR;obtain⟨t,rfl⟩:∃n:Nat,ct=n:=⟨ct.toNat,by omega⟩;have ht:t<T.length:=by omega
   have ui:T[t]∈T:=zzk ht;obtain⟨pv,L,hL,hS⟩:=dd.iff.1 hS;obtain⟨b0,hb⟩:=A_ hL ht;have Ig:=uB hL;refine Gm λb w hS=>?_;refine zX hS Xh wv hb (by omega) ?_;refine Gp ?_;have hS:=zg.take (SL.bo hS (t:=.ob (zg dt L)::.pt sp [pv] 220::jl pv L::.mem H::F) Xi) hb;refine Cc (bAv b0 T[t] T[t] ⟨t,ck,cg,cv⟩ (sR _ ui) (by have:=wG _ ui;omega)) ?_;clear hS;rintro u post rfl w hS;(try simp only[app]at hS);refine Gp ?_
   have hS:=zg.put hS (by omega);have hS:=jl.set (D:=kz T[t] ⟨t,ck,cg,cv⟩) hb (SL.bo hS (t:=jl pv L::.ob (zg dt (L.set t (b0,kz T[t] ⟨t,ck,cg,cv⟩)))::.pt sp [pv] 220::.mem H::F) Xi);refine⟨⟨i+1,rfl,by omega,?_⟩,by dsimp only;omega⟩;rw[eN];refine SL.bo (dd.put (ts:=jB T ⟨t,ck,cg,cv⟩) ?_ hS Xp) Xi;rw[W9 hL t b0];unfold jB;rw[nS T t ht];rfl
  obtain rfl:i=l.length:=by omega
  rw[zz0]at hS
  (exact bw hS)
end
structure Bx{κ:Type}[DecidableEq κ](P:Program)(kt:Ι)(key:κ->Ε):Prop where
 wide:∃fs,P.underlying kt=some (.struct fs)
 check:∀(k:κ) (em:Bool) (w:Ζ),(Instr.checkKey em 10000 kt (key k)).run P w= .ok () w
 eq:∀(a b:κ) (w:Ζ),(Op.equal kt (key a) (key b)).run P w= .ok (decide (a=b)) w
 stays:∀(k:κ) (w:Ζ),(Instr.keyThatStays (key k) (key k)).run P w= .ok (key k) w
 inj:∀{a b:κ},key a=key b->a=b
section
variable {W w:Ζ} {l l':Β} {κ α:Type} [DecidableEq κ] {key:κ->Ε} {val:α->Ε} {b:Nat} {m:List (κ × α)} {P:Program} {t kt et:Ι} {z:Ε} {k:κ}
def Ej(ok:Bx P kt key)(k:κ)(es:List MapEntry):(Instr.findKey kt (key k) es).run P w=(Instr.findAsking kt (key k) es).run P w:=by
 obtain⟨fs,hd⟩:=ok.wide;cases es with
 | nil=>simp[Instr.findKey,zzu hd,Result.andThen,Instr.findNow,Instr.findAsking]
 | cons e es=>simp[Instr.findKey,zzu hd,Result.andThen,Instr.findNow,Instr.sameNow]
def HR(ok:Bx P kt key)(k:κ):∀(es:List MapEntry) (m:List (κ × α)) (i:Nat),es.map kv=m.map (kw key val) ->
  ((Instr.findAsking kt (key k) es i).run P w= .ok none w/\fD m k=none/\(∀v,fN m k v=m++[(k,v)])/\∀x∈es,x.key≠key k) \/
  ∃j e a,(Instr.findAsking kt (key k) es i).run P w= .ok (some (i+j,val a)) w/\es[j]?=some e/\e.key=key k/\fD m k=some a /\
   (∀v,(es.modify j λe=>{e with key:=key k,val:=val v}).map kv=(fN m k v).map (kw key val))
 | [],[],_,_=>.inl ⟨rfl,rfl,λ_=>rfl,by simp⟩
 | [],_::_,_,h=>by simp at h
 | _::_,[],_,h=>by simp at h
 | e::es,p::m,i,h=>by
  simp only[zzp,List.cons.injEq]at h;obtain⟨h1,h2⟩:=h;obtain⟨x,y⟩:=p;simp only[kv,kw,vvd]at h1;obtain⟨rL,Eu⟩:=h1;have hq:=ok.eq k x w;by_cases hx:x=k
  ·subst hx;rw[zzm rfl]at hq
   refine .inr ⟨0,e,y,by simp[Instr.findAsking,rL,hq,Eu,Result.andThen],rfl,rL,by simp[fD],?_⟩;intro v;simp[fN,kv,kw];exact h2
  rw[zzx (λh=>hx h.symm)]at hq
  rcases HR ok k es m (i+1) h2 with ⟨a1,a2,a3,a5⟩|⟨j,e',a,a1,a2,a3,a4,a5⟩
  ·refine .inl ⟨by simp[Instr.findAsking,rL,hq,a1,Result.andThen],by simp[fD,hx,a2],λv=>by simp[fN,hx,a3],?_⟩;intro z hz;rcases yya.1 hz with rfl|hz
   ·rw[rL];exact λq=>hx (ok.inj q)
   exact a5 z hz
  refine .inr ⟨j+1,e',a,by simp[Instr.findAsking,rL,hq,a1,Result.andThen];omega,by simpa using a2,a3,by simp[fD,hx,a4],?_⟩;intro v;simp[fN,hx,kv,kw,rL,Eu];exact a5 v
def bxk{K:Ε->Prop}(hS:SL W l w)(hm:Has (.ob (dx key val b m)) l)(ok:Bx P kt key)(ht:P.underlying t=some (.map kt et))(hz:∀w,(zeroValue et).run P w= .ok z w)
  (h:K (.tuple #[((fD m k).map val).getD z,.bool (fD m k).isSome])):dP P (Instr.lookup t (.map (some b)) (key k) true) w K:=by
 obtain⟨es,c,e1,e2,hb⟩:=hS.xm hm;rcases HR (w:=w) ok k es m 0 e1 with ⟨a1,a2,_,_⟩|⟨j,e,a,a1,_,_,a4,_⟩
 ·refine⟨_,?_,h⟩;simp[Instr.lookup,zzu ht,yyx hb,ok.check,Ej ok,a1,hz,Result.andThen,a2]
 refine⟨_,?_,h⟩;simp[Instr.lookup,zzu ht,yyx hb,ok.check,Ej ok,a1,Result.andThen,a4]
def bxl{v:α}{K:Ε->Ζ->Prop}(hS:SL W l w)(u:fg (.ob (dx key val b m)) (.ob (dx key val b (fN m k v))) l l')(ok:Bx P kt key)(ht:P.underlying t=some (.map kt et))
  (h:∀u w',SL W l' w'->K u w'):zQ P (do Instr.mapUpdate t (.map (some b)) (key k) (val v);pure undef) w K:=by
 obtain⟨es,c,e1,e2,hb⟩:=hS.xm u.has;rcases HR (w:=w) ok k es m 0 e1 with ⟨a1,_,a3,a5⟩|⟨j,e,a,a1,a2,a3,_,a5⟩
 ·refine⟨undef,{w with heap:=w.heap.setIfInBounds b (.map (es++[({key:=key k,val:=val v,born:=c}:MapEntry)]).toArray (c+1))},?_,h _ _ (hS.AU u hb (by rw[a3];simp[e1,kv,kw]) ?_)⟩
  ·simp[Instr.mapUpdate,zzu ht,yyx hb,ok.check,Ej ok,a1,wwn _ hb,Result.andThen]
  have:=MapKept.stamped_push e2 (key:=key k) (val:=val v) (by simpa using a5);simpa using this
 refine⟨undef,{w with heap:=w.heap.setIfInBounds b (.map (es.modify j λe=>{e with key:=key k,val:=val v}).toArray c)},?_,h _ _ (hS.AU u hb (a5 v) ?_)⟩
 ·have hj:es.toArray[j]?=some e:=by simpa using a2
  simp[Instr.mapUpdate,zzu ht,yyx hb,ok.check,Ej ok,a1,a2,a3,ok.stays,wwn _ hb,Result.andThen]
 have wO:∀e',es.toArray[j]?=some e'->({e' with key:=key k,val:=val v}:MapEntry).key=e'.key:=λe' oy=>by
  have:es[j]?=some e':=by simpa using oy
  rw[a2]at this;cases this;exact a3.symm
 have:=MapKept.stamped_modify e2 j (λe=>{e with key:=key k,val:=val v}) (λ_ _=>rfl) (λe' _ oy=>wO e' oy);simpa using this
end
def B5(p:Int × Int):Ξ:=[Γ p.1,Γ p.2]
def kO(p:Int × Int):Ε:=agg (B5 p)
def bdq(a b:Int × Int)(w:Ζ):(Op.equal 305 (kO a) (kO b)).run prog w= .ok (decide (a=b)) w:=by
 refine WG uuw (by kernel_rfl) ?_;obtain⟨k1,v1⟩:=a;obtain⟨k2,v2⟩:=b;simp[B5,Op.eqFields,part,uu6 (h:=xxg),uu6 (h:=yyc),Result.andThen];by_cases h0:k1=k2<;>by_cases h1:v1=v2<;>simp[*]
def Wh:Bx prog 305 kO where
 wide:=⟨_,uuw⟩
 check:=λk em w=>by
  obtain⟨a,b⟩:=k;have h1:(Instr.checkKey em 9999 3 (Γ a)).run prog w= .ok () w:=xxi (k:=Γ a) yyc (ph .i64 |>.is a) em 9998;have h2:(Instr.checkKey em 9999 2 (Γ b)).run prog w= .ok () w:=xxi (k:=Γ b) xxg (ph .i64 |>.is b) em 9998;show (Instr.checkKey em (9999+1) _ _).run prog w=_;unfold Instr.checkKey;simp[kO,B5,zzu uuw,part,h1,h2,Result.andThen]
 eq:=bdq
 stays:=λk w=>by
  have:Instr.sameBits 10000 (kO k) (kO k)=true:=by simp[kO,B5,Instr.sameBits]
  simp[Instr.keyThatStays,this]
 inj:=λ{a b} h=>by
  obtain⟨a1,a2⟩:=a;obtain⟨b1,b2⟩:=b;simp[kO,B5]at h
  rw[h.1,h.2]
def bx0{W w:Ζ}{l:Β}{α:Type}{enc:α->Ξ}{v:Ε}{t:Ι}{sz j:Nat}{k:IntKind}{xs:List α}{y:α}{K:Ζ->Prop}(hS:SL W (.ob (bd v t sz xs.length (xs.map enc).flatten)::l) w)(hn:∀x,(enc x).length=sz)
  (hj:j<xs.length) (h1:∀v∈enc y,v.oneCell'=true) (hK:∀w',SL W (.ob (bd v t sz (xs.set j y).length ((xs.set j y).map enc).flatten)::l) w'->K w'):zl sz v (.int k (j:Int)) λq=>zj sz q (agg (enc y)) w K:=by
 rcases bd.open hS with ⟨_,h0,_⟩|⟨b,cap,rest,rfl,hc,hlen,iT,hS⟩
 ·omega
 have b9:j*sz+sz<=xs.length*sz:=by
  have:(j+1)*sz<=xs.length*sz:=yy3 _ hj
  rwa [yyv,wwu]at this
 refine zI hj ?_;rw[yyd];refine Zn hS .hd (hn y) (by rw[zza];omega) h1 λw' hS=>hK w' ?_;have e:((xs.map enc).flatten++rest).take (j*sz)++enc y++((xs.map enc).flatten++rest).drop (j*sz+sz)=((xs.set j y).map enc).flatten++rest:=by
  rw[yy4 (by omega),wwf (by omega),sM hn,show j*sz+sz=(j+1)*sz by rw[yyv,wwu],uZ hn,xxf,zzc hj];simp
 rw[e]at hS
 have hl:(xs.set j y).length=xs.length:=yyl;rw[hl];exact bd.mk hc (by rw[n_ hn,hl]) iT hS
def bBf(sp:Nat)(ts:List (List Row))(H:a_)(v:Ε)(t:Nat)(l:List Row)(ht:t<ts.length)(hv:cn H 2 v l.length (l.map dV).flatten)(hs:ff l)(hl:l.length<=100000):
  SP 160 [bx sp,Γ (t:Int),v] [.ob (dd sp ts),.mem H] (bA (.bool true) [.ob (dd sp (ts.set t l)),.mem H]):=by
 refine Enzz λW F w hS=>?_;apply bDw;delta bg bk bT;refine Cg (yK sp ts t) λw hS=>?_;refine Υ ?_;obtain⟨pv,L,hL,hS⟩:=dd.iff.1 hS;have hl2:=uB hL;obtain⟨b0,hb⟩:=A_ hL ht;refine Gn λw hS=>?_;refine Cc (YB H v l hv hl) ?_;clear hS;rintro u post ⟨xb,rfl,rfl⟩ w hS;try simp only[app]at hS
 rw[btu hs]at hS
 refine Gp ?_;refine bx0 (enc:=rG) (y:=(xb,l)) (SL.bo hS (t:=jl pv L::.ob (zg dt L)::.ob (dt (xb,l))::.pt sp [pv] 220::.mem H::F) Xi) wv (by omega) (by simp[rG,Value.oneCell']) λw hS=>?_;have hS:=zg.take (SL.bo hS (t:=.ob (zg dt L)::.ob (dt (xb,l))::.pt sp [pv] 220::jl pv (L.set t (xb,l))::.mem H::F) Xi) hb;have hS:=zg.put (SL.bo hS (t:=.ob (dt (xb,l))::.ob (zg dt (L.eraseIdx t))::.pt sp [pv] 220::jl pv (L.set t (xb,l))::.mem H::F) Xi) (by omega);have hS:=dd.put (W9 hL t xb l) hS Xp;refine Cg (yK sp (ts.set t l) t) λw hS=>?_;rw[show decide (0<=(t:Int)/\(t:Int)<((ts.set t l).length:Int))=true from zzm (by rw[yyl];omega)];(exact bw hS)
def UR:∀{C:List Row},ff C->∀(k:Int) (v:Η),(fZ C ⟨k,v⟩).length=C.length+if (dL C k).isSome=true then 0 else 1
 | [],_,k,v=>by simp[fZ,dL]
 | x::C,h,k,v=>by
  unfold ff at h;rw[yyi]at h
  unfold fZ;by_cases h1:x.key<k
  ·have hg:dL (x::C) k=dL C k:=by unfold dL;rw[uun];simp[show ¬x.key=k by omega]
   rw[zzc h1,zzi,UR (C:=C) h.2 k v,zzi,hg];omega
  rw[zzb h1];by_cases h2:x.key=k
  ·have hg:(dL (x::C) k).isSome=true:=by unfold dL;rw[uun];simp[h2]
   rw[zzc h2,hg];simp
  have hg:dL (x::C) k=none:=by
   unfold dL;have:(x::C).find? (λc=>decide (c.key=k))=none:=by
    rw[List.find?_eq_none];intro y hy;rcases yya.1 hy with rfl|hy
    ·simpa using h2
    have:=h.1 y hy;simp;omega
   rw[this];rfl
  rw[zzb h2,hg];simp
def R3:∀(C:List Row) (k:Int),((jo C k).length:Int)=C.length-if (dL C k).isSome=true then 1 else 0
 | [],k=>by simp[jo,dL]
 | x::C,k=>by
  unfold jo;by_cases h:x.key=k
  ·have hg:(dL (x::C) k).isSome=true:=by unfold dL;rw[uun];simp[h]
   rw[zzc h,hg];simp
  have hg:dL (x::C) k=dL C k:=by unfold dL;rw[uun];simp[h]
  rw[zzb h,hg,zzi,zzi];have:=R3 C k;omega
def bwk{C:List Row}(h:ff C)(c:da):((kz C c).length:Int)=C.length+(if (dL C c.key).isSome=true then (if c.gone=true then -1 else 0) else (if c.gone=true then 0 else 1)):=by
 unfold kz;cases c.gone with
 | true=>
  rw[zzc rfl,R3];split<;>simp<;>omega
 | false=>
  rw[zzb (by decide)];have:=UR h c.key c.val;rw[this];split<;>simp
def bwl{C:List Row}(h:ff C)(c:da)(k:Int):(dL (kz C c) k).isSome=if c.key=k then !c.gone else (dL C k).isSome:=by
 unfold kz;cases hg:c.gone with
 | true=>
  rw[zzc rfl,SV h];split<;>rfl
 | false=>
  rw[zzb (by decide),SX];split<;>rfl
def By(ts T:List (List Row))(m:List ((Int × Int) × Bool)):Prop:=∀p:Int × Int,match fD m p with
 | none=>dL (iG T p.1) p.2=dL (iG ts p.1) p.2
 | some b=>(dL (iG T p.1) p.2).isSome=b
def bo5{κ α:Type}[DecidableEq κ](m:List (κ × α))(k:κ)(v:α)(k':κ):fD (fN m k v) k'=if k=k' then some v else fD m k':=by
 induction m with
 | nil=>simp[fN,fD]
 | cons p m ih=>
  unfold fN;by_cases h:p.1=k
  ·rw[zzc h];by_cases h1:k=k'
   ·simp[fD,h1]
   simp[fD,h1,show ¬p.1=k' by rw[h];exact h1]
  rw[zzb h];by_cases h1:p.1=k'
  ·have:¬k=k':=λe=>h (by rw[h1,e]);simp[fD,h1,this]
  simp only[fD,zzb h1];exact ih
def bAj{T:List (List Row)}{c:da}(hc:gu T.length c=true)(t:Int):iG (jB T c) t=if t=c.table then kz (iG T c.table) c else iG T t:=by
 obtain⟨h0,h1⟩:=zzt hc;unfold jB;by_cases ht:0<=t/\t<(T.length:Int)
 ·obtain⟨n,rfl⟩:∃n:Nat,t=n:=⟨t.toNat,by omega⟩;have hn:n<T.length:=by omega
  rw[nS _ n (by rw[yyl];exact hn),xx8];by_cases e:c.table.toNat=n
  ·rw[zzc e,zzc (by omega)]
  rw[zzb e,zzb (by omega),nS T n hn]
 rw[Gh (by rw[yyl];exact ht),zzb (by omega),Gh ht]
def By.step{ts T:List (List Row)}{m:List ((Int × Int) × Bool)}(h:By ts T m)(hs:∀C∈T,ff C){c:da}(hc:gu T.length c=true):By ts (jB T c) (fN m (c.table,c.key) (!c.gone)):=by
 have Ul:=hs _ (Gg (zzt hc));rintro ⟨t,k⟩;rw[bo5];have hk:=h (t,k);simp only at hk ⊢;rw[bAj hc];by_cases e:(c.table,c.key)=(t,k)
 ·rw[zzc e];simp only[vvd]at e;rw[zzc e.1.symm,bwl Ul,zzc e.2]
 rw[zzb e];simp only[vvd,not_and]at e;by_cases e1:t=c.table
 ·rw[zzc e1];have e2:=e e1.symm;subst e1;have hg:dL (kz (iG T c.table) c) k=dL (iG T c.table) k:=by
   unfold kz;split
   ·rw[SV Ul,zzb e2]
   rw[SX,zzb e2]
  rw[hg];exact hk
 rw[zzb e1];exact hk
def jC(T:List (List Row)):Ξ:=T.map λC=>Γ (C.length:Nat)
def aW1(T:List (List Row)):(jC T).length=T.length:=by simp[jC]
def RC{T:List (List Row)}{c:da}{t:Nat}(ht:c.table=t)(h:t<T.length):jC (jB T c)=(jC T).set t (Γ ((kz T[t] c).length:Nat)):=by
 unfold jC jB;rw[vvj,ht,zzw,nS T t h]
def aW2{T:List (List Row)}{c:da}{t:Nat}(ht:c.table=t)(h:t<T.length)(hl:(kz T[t] c).length=T[t].length):jC (jB T c)=jC T:=by
 rw[RC ht h,hl];unfold jC;rw[<- vvj (f:=λC:List Row=>Γ (C.length:Nat)) (a:=T[t]),List.set_getElem_self]
def Ho{T:List (List Row)}{t:Nat}(h:t<T.length):(jC T)[t]?=some (Γ (T[t].length:Nat)):=by simp[jC,h]
def Y7{W w:Ζ}{l:Β}{v u:Ε}{t:Ι}{n j:Nat}{k:IntKind}{cells:Ξ}{K:Ζ->Prop}(hS:SL W (.ob (bd v t 1 n cells)::l) w)(hj:j<n)(h1:u.oneCell'=true)
  (hK:∀w',SL W (.ob (bd v t 1 n (cells.set j u))::l) w'->K w'):zl 1 v (.int k (j:Int)) λq=>dj q u w K:=by
 rcases bd.open hS with ⟨_,h0,_⟩|⟨b,cap,rest,rfl,hc,hlen,iT,hS⟩
 ·omega
 refine zI hj ?_;rw[yyd,vvs];refine ZA hS .hd (zzd (by rw[zza];omega)) h1 λw' hS=>hK w' ?_;rw[www _ _ (by omega)]at hS
 exact bd.mk hc (by rw[yyl];exact hlen) iT hS
def Sh(t k:Int)(g:Bool)(v:Η):eM ⟨t,k,g,v⟩=[Γ t,Γ k,.bool g,.string v]:=rfl
def bBe(sp:Nat)(ts:List (List Row))(H:a_)(v:Ε)(l:List da)(hv:cn H 4 v l.length (l.map eM).flatten)(hl:l.length<=140737488351232)(hs:∀C∈ts,ff C)(hn:∀C∈ts,C.length<=1000000)(hl6:l.length<=1000000)(CZ:ts.length<=1000):
  SP 119 [bx sp,v] [.ob (dd sp ts),.mem H] (bA (.bool (mh ts l)) [.ob (dd sp ts),.mem H]):=by
 refine Enzz λW F w hS=>?_;apply bCs;delta aI bh aW bJ br xQ ai bT bK;refine Cg (YT sp ts H v l hv hl) λw hS=>?_;cases ha:l.all (gu ts.length) with
 | false=>
  refine zu ?_;rw[show mh ts l=false by unfold mh;rw[ha];rfl];(exact bw hS)
 | true=>
  refine zq ?_;have hF:mh ts l=(eZ ts l).all λC=>decide (C.length<=1000):=by unfold mh;rw[ha];rfl
  have ha:=zz7.1 ha;obtain⟨pv,L,hL,hS⟩:=dd.iff.1 hS;have Ig:=uB hL;refine Gp ?_;refine zy hS Xh ?_;refine WR hS (zzj _) (by omega) (by omega) λnb w hS=>?_;have hS:=bd.full (sz:=1) (n:=L.length) (by rw[kV];rfl) hS;refine Gp ?_;refine zy hS Xh ?_;refine⟨λus w=>∃(i:Nat) (cells:Ξ),us=[Γ i]/\i<=L.length/\cells.length=L.length/\(∀j (h:j<ts.length),j<i->cells[j]?=some (Γ (ts[j].length:Nat)))/\SL W (.ob (bd (.slice (some ⟨nb,0,none⟩) L.length L.length) 3 1 L.length cells)::.pt sp [pv] 220::jl pv L::.ob (zg dt L)::.mem H::F) w,
   λus _=>match us with|[.int _ i]=>(L.length-i).toNat|_=>0,⟨0,bE [Γ 0] L.length,rfl,by omega,by rw[kV];exact vvs _,λj h hj=>by omega,aR hS⟩,?_⟩
  clear hS;rintro v31 w ⟨i,cells,bM,hi,mR,gU,hS⟩;cases bM;refine bj (λh=>?_) (λh=>?_)
  ·have bn:i<ts.length:=by omega
   obtain⟨b0,hb⟩:=A_ hL bn;refine zX hS Xh wv hb (by omega) ?_;unfold rG;refine Gm λb w hS=>?_;have hS:=zg.take (SL.bo hS (t:=.ob (zg dt L)::.ob (bd (.slice (some ⟨nb,0,none⟩) L.length L.length) 3 1 L.length cells)::.pt sp [pv] 220::jl pv L::.mem H::F) Xi) hb;refine Cc (bmf b0 ts[i]) ?_;clear hS;rintro u post ⟨rfl,rfl⟩ w hS;try simp only[app]at hS
   have hS:=zg.back hS hb;refine Y7 (SL.bo hS (t:=.ob (bd (.slice (some ⟨nb,0,none⟩) L.length L.length) 3 1 L.length cells)::.pt sp [pv] 220::jl pv L::.ob (zg dt L)::.mem H::F) Xi) (by omega) rfl λw hS=>?_;refine Gp ?_;refine⟨⟨i+1,_,rfl,by omega,by rw[yyl];exact mR,λj hj gZ=>?_,hS⟩,by dsimp only;omega⟩;rw[List.getElem?_set];by_cases e:i=j
   ·subst e;rw[zzc rfl,zzc (by omega)]
   rw[zzb e];exact gU j hj (by omega)
  obtain rfl:i=L.length:=by omega
  have EJ:cells=jC ts:=by
   refine vv9 λj=>?_;rcases xxz j ts.length with hj|hj
   ·rw[gU j hj (by omega),Ho hj]
   rw[yyt (by omega),yyt (by rw[aW1];omega)]
  subst EJ;clear gU mR;have hS:=dd.put hL hS Xp;clear hL;refine zn hv ?_;have hS:=hS.Jy (key:=kO) (val:=Value.bool);generalize w.heap.size=mb at *
  generalize w.alloc (.map #[] 0)=w at *
  rw[show jC ts=jC (eZ ts (l.take 0)) from rfl]at hS
  refine⟨λus w=>∃(i:Nat) (m:List ((Int × Int) × Bool)),us=[Γ i]/\i<=l.length/\By ts (eZ ts (l.take i)) m/\SL W (.ob (dd sp ts)::.ob (dx kO Value.bool mb m)::.ob (bd (.slice (some ⟨nb,0,none⟩) L.length L.length) 3 1 L.length (jC (eZ ts (l.take i))))::.mem H::F) w,
   λus _=>match us with|[.int _ i]=>(l.length-i).toNat|_=>0,⟨0,[],rfl,by omega,λp=>rfl,aR hS⟩,?_⟩
  clear hS;rintro v46 w ⟨i,m,bM,hi,hM,hS⟩;cases bM;refine bj (λh=>?_) (λh=>?_)
  ·have bn:i<l.length:=by omega
   have eN:eZ ts (l.take (i+1))=jB (eZ ts (l.take i)) l[i]:=by rw[zze bn,P6]
   have jR:=ha _ (zzk bn);have ve:=tw ts (l.take i);have sR:=D1 (l:=l.take i) hs λc hc=>ha c (yyg hc);have wG:=D0 1000000 (l:=l.take i) hn λc hc=>ha c (yyg hc);have lu:(l.take i).length<=l.length:=by rw[zzf];omega
   generalize eZ ts (l.take i)=T at *
   refine zB hS Xh pF hv (x:=l[i]) (by simp[bn]) bn ?_;generalize l[i]=c at *
   obtain⟨ct,ck,cg,cv⟩:=c;obtain⟨h0,h1⟩:0<=ct/\ct<(ts.length:Int):=zzt jR;obtain⟨t,rfl⟩:∃n:Nat,ct=n:=⟨ct.toNat,by omega⟩;have ht:t<T.length:=by omega
   have gy:t<ts.length:=by omega
   have ui:T[t]∈T:=zzk ht;have b9:=wG _ ui;have sQ:=hM (t,ck);have nE:=hM.step sR (c:=⟨t,ck,cg,cv⟩) (by rw[ve];exact jR);have rP:=bwk (sR _ ui) ⟨t,ck,cg,cv⟩;simp only at sQ nE rP;rw[nS T t ht,nS ts t gy]at sQ
   rw[<- eN]at nE
   clear hM;rw[Sh];refine Gb λcb w hS=>?_;refine Gb λpb w hS=>?_;refine bxk (key:=kO) (val:=Value.bool) (z:=.bool false) (k:=((t:Int),ck)) hS Xh Wh underlying303 (λw=>by kernel_rfl) ?_;refine Gp ?_;refine⟨λus w=>us=[.bool (dL T[t] ck).isSome]/\SL W (.pt pb [Γ t,Γ ck] 305::.pt cb [Γ t,Γ ck,.bool cg,.string cv] 118::.ob (dd sp ts)::.ob (dx kO Value.bool mb m)::.ob (bd (.slice (some ⟨nb,0,none⟩) L.length L.length) 3 1 L.length (jC T))::.mem H::F) w,?_,?_⟩
   ·cases Az:fD m ((t:Int),ck) with
    | none=>
     rw[Az]at sQ
     refine z7 (zu ?_);have sQ:dL T[t] ck=dL ts[t] ck:=sQ;obtain⟨pv,L2,hL,hS⟩:=dd.iff.1 (SL.bo hS (t:=.ob (dd sp ts)::.pt pb [Γ t,Γ ck] 305::.pt cb [Γ t,Γ ck,.bool cg,.string cv] 118::.ob (dx kO Value.bool mb m)::.ob (bd (.slice (some ⟨nb,0,none⟩) L.length L.length) 3 1 L.length (jC T))::.mem H::F) Xi);obtain⟨b0,hb⟩:=A_ hL gy;have bLd:=uB hL;refine Gn λw hS=>?_;refine yw hS Xh wv hb (by omega) (i:=0) rfl ?_;refine Gp ?_;have hS:=zg.take (SL.bo hS (t:=.ob (zg dt L2)::.pt sp [pv] 220::jl pv L2::.pt pb [Γ t,Γ ck] 305::.pt cb [Γ t,Γ ck,.bool cg,.string cv] 118::.ob (dx kO Value.bool mb m)::.ob (bd (.slice (some ⟨nb,0,none⟩) L.length L.length) 3 1 L.length (jC T))::.mem H::F) Xi) hb;refine Cc (bmd b0 ts[t] ck (hs _ (zzk gy)) (hn _ (zzk gy))) ?_;clear hS;rintro u post ⟨rfl,rfl⟩ w hS;try simp only[app]at hS
     have hS:=dd.put hL (zg.back hS hb) Xp;unfold SS;refine Gp ?_;exact⟨by rw[sQ],aR hS⟩
    | some q=>
     rw[Az]at sQ
     have sQ:(dL T[t] ck).isSome=q:=sQ;refine z7 (zq ?_);exact⟨by rw[sQ];rfl,aR hS⟩
   clear hS;rintro v12 w ⟨bM,hS⟩;cases bM;refine Gp ?_;refine bxl (key:=kO) (val:=Value.bool) (k:=((t:Int),ck)) (v:=!cg) hS Xu Wh underlying303 λ_ w hS=>?_;have gg:∀{w:Ζ} {cells:Ξ},cells=jC (eZ ts (l.take (i+1)))->SL W (.ob (bd (.slice (some ⟨nb,0,none⟩) L.length L.length) 3 1 L.length cells)::.ob (dd sp ts)::.ob (dx kO Value.bool mb (fN m ((t:Int),ck) (!cg)))::.mem H::F) w ->
     ∃(i':Nat) (m':List ((Int × Int) × Bool)),[Γ ((i+1:Nat):Int)]=[Γ i']/\i'<=l.length/\By ts (eZ ts (l.take i')) m'/\SL W (.ob (dd sp ts)::.ob (dx kO Value.bool mb m')::.ob (bd (.slice (some ⟨nb,0,none⟩) L.length L.length) 3 1 L.length (jC (eZ ts (l.take i'))))::.mem H::F) w:=λe hS=>by
    subst e;exact⟨i+1,_,rfl,by omega,nE,aR hS⟩
   have Tn:=Ho ht;have sU:=RC (T:=T) (c:=⟨t,ck,cg,cv⟩) rfl ht;have uh:=aW2 (T:=T) (c:=⟨t,ck,cg,cv⟩) rfl ht;rw[<- eN]at sU uh
   refine⟨λus w=>us=[.bool ((dL T[t] ck).isSome && cg)]/\SL W (.pt cb [Γ t,Γ ck,.bool cg,.string cv] 118::.ob (dd sp ts)::.ob (dx kO Value.bool mb (fN m ((t:Int),ck) (!cg)))::.ob (bd (.slice (some ⟨nb,0,none⟩) L.length L.length) 3 1 L.length (jC T))::.mem H::F) w,?_,?_⟩
   ·cases (dL T[t] ck).isSome with
    | false=>
     refine Gp ?_;exact⟨rfl,aR hS⟩
    | true=>
     refine Gp ?_;exact⟨by simp,aR hS⟩
   clear hS;rintro XQ w ⟨bM,hS⟩;cases bM;cases hw:(dL T[t] ck).isSome<;>cases cg<;>rw[hw]at rP
   ·refine zq (z7 (zu ?_));refine Gp ?_;refine zu ?_;refine Gp ?_;refine yv hS Xh (by omega) Tn ?_;refine Gp ?_;refine Y7 (SL.bo hS (t:=.ob (bd (.slice (some ⟨nb,0,none⟩) L.length L.length) 3 1 L.length (jC T))::.ob (dd sp ts)::.ob (dx kO Value.bool mb (fN m ((t:Int),ck) (!false)))::.mem H::F) Xi) (by omega) rfl λw hS=>?_;refine Gp ?_;exact⟨gg (by rw[sU];congr 2;simp at rP;omega) hS,by dsimp only;omega⟩
   ·refine zq (z7 (zu ?_));refine Gp ?_;refine zq ?_;refine Gp ?_;exact⟨gg (uh (by simp at rP;omega)).symm (aR hS),by dsimp only;omega⟩
   ·refine zq (z7 (zq ?_));refine Gp ?_;exact⟨gg (uh (by simp at rP;omega)).symm (aR hS),by dsimp only;omega⟩
   refine zu ?_;refine Gp ?_;refine yv hS Xh (by omega) Tn ?_;refine Gp ?_;refine Y7 (SL.bo hS (t:=.ob (bd (.slice (some ⟨nb,0,none⟩) L.length L.length) 3 1 L.length (jC T))::.ob (dd sp ts)::.ob (dx kO Value.bool mb (fN m ((t:Int),ck) (!true)))::.mem H::F) Xi) (by omega) rfl λw hS=>?_;refine Gp ?_;exact⟨gg (by rw[sU];congr 2;simp at rP;omega) hS,by dsimp only;omega⟩
  obtain rfl:i=l.length:=by omega
  rw[zz0]at hS
  have ve:=tw ts l;generalize eZ ts l=T at *
  refine Gp ?_;refine⟨λus w=>∃j:Nat,us=[Γ j]/\j<=T.length/\(∀k (h:k<T.length),k<j->T[k].length<=1000)/\SL W (.ob (dd sp ts)::.ob (bd (.slice (some ⟨nb,0,none⟩) L.length L.length) 3 1 L.length (jC T))::.mem H::F) w,
   λus _=>match us with|[.int _ i]=>(T.length-i).toNat|_=>0,⟨0,rfl,by omega,λk h hk=>by omega,aR hS⟩,?_⟩
  clear hS;rintro bM3 w ⟨j,bM,hj,dh,hS⟩;cases bM;refine bj (λh=>?_) (λh=>?_)
  ·have fY:j<T.length:=by omega
   refine yv hS Xh (by omega) (Ho fY) ?_;refine bj (λh2=>?_) (λh2=>?_)
   ·rw[hF,show (T.all λC=>decide (C.length<=1000))=false from uuy.2 ⟨_,zzk fY,by simp;omega⟩];(exact bw hS)
   refine Gp ?_;refine⟨⟨j+1,rfl,by omega,λk hk IC=>?_,hS⟩,by dsimp only;omega⟩;by_cases e:k=j
   ·subst e;omega
   exact dh k hk (by omega)
  rw[hF,show (T.all λC=>decide (C.length<=1000))=true from zz7.2 λC hC=>by
   obtain⟨k,hk,rfl⟩:=yyh hC;exact zzm (dh k hk (by omega))]
  (exact bw hS)
def Yr(H:a_)(v:Ε)(C:List Row)(hC:cn H 2 v C.length (C.map dV).flatten)(hn:C.length<=140737488351232):SP 308 [v] [.mem H] (bA (.bool (p3 C)) [.mem H]):=by
 refine Enzz λW F w hS=>?_;apply bHl;delta aI aW br ai bK;refine zn hC ?_;refine⟨λus w=>∃(i:Nat) (k:Int),us=[Γ k,Γ i]/\i<=C.length/\vI 0 C=vI k (C.drop i)/\SL W (.mem H::F) w,λus _=>match us with|[_,.int _ i]=>(C.length-i).toNat|_=>0,⟨0,0,rfl,by omega,rfl,hS⟩,?_⟩;clear hS;rintro v3 v8 w ⟨i,k,bM,hi,hr,hS⟩;cases bM;refine bj (λh=>?_) (λh=>?_)
 ·have bn:i<C.length:=by omega
  rw[yyn bn,vI]at hr
  refine zB hS Xh iK hC (x:=C[i]) (by simp[bn]) bn ?_;generalize C[i]=r at *
  obtain⟨rk,rv⟩:=r;have hF:∀{w:Ζ} {b:Nat},¬(k<rk/\rk<=1099511627776/\rv.size<=32)->SL W (.pt b [Γ rk,.string rv] 182::.mem H::F) w->∃post,bA (.bool (p3 C)) [.mem H] (.bool false) post/\SL W (app post F) w:=λdX hS=>
   ⟨_,⟨by unfold p3;rw[hr,zzx dX];rfl,rfl⟩,aR hS⟩
  rw[Ef];refine Gm λb w hS=>?_;refine za (λh1=>hF (by omega) hS) (λh1=>?_);refine Gp ?_;refine za (λh2=>hF (by omega) hS) (λh2=>?_);refine Gp ?_;refine za (λh3=>hF (by omega) hS) (λh3=>?_);refine Gp ?_;refine⟨⟨i+1,rk,rfl,by omega,?_,aR hS⟩,by dsimp only;omega⟩;rw[hr,zzm (show k<rk/\rk<=1099511627776/\rv.size<=32 by omega)];rfl
 have gh:i=C.length:=by omega
 subst gh;rw[vvw]at hr
 refine zn hC ?_;refine Gp ?_;have e:p3 C=decide ((C.length:Int)<=1000):=by
  unfold p3;rw[hr];show (true && _)=_;rw[uuh,yye];omega
 rw[e];(exact bw hS)
def uK(H:a_)(v:Ε)(ts:List (List Row)):Prop:=∃vs,cn H 1 v ts.length vs/\mI H vs ts
def yS{H:a_}{v:Ε}{ts:List (List Row)}{K:Ε->Prop}(h:uK H v ts)(k:K (Γ ts.length)):zd v K:=by
 obtain⟨vs,h1,_⟩:=h;exact zn h1 k
def Y2{W w:Ζ}{l:Β}{H:a_}{v:Ε}{ts:List (List Row)}{j:Nat}{k:IntKind}{K:Ε->Prop}(hS:SL W l w)(hm:Has (.mem H) l)(h:uK H v ts)(hj:j<ts.length)
  (hK:∀u,cn H 2 u ts[j].length (ts[j].map dV).flatten->K u):zl 1 v (.int k (j:Int)) λp=>bu p w K:=by
 obtain⟨vs,h1,h2⟩:=h;have hl:=h2.1;have hu:vs[j]?=some (vs[j]'(by omega)):=zzd (by omega);exact yA hS hm h1 hj hu (hK _ (h2.2 j _ _ hu (zzd hj)))
def Zl(H:a_)(v:Ε)(aw:Int)(ts:List (List Row))(hv:uK H v ts)(hn:ts.length<=140737488351232)(hc:∀C∈ts,C.length<=140737488351232):SP 264 [Γ aw,v] [.mem H] (bA (.bool (iw aw ts)) [.mem H]):=by
 refine Enzz λW F w hS=>?_;apply bGn;delta aI bJ br ai;have hF:∀{w:Ζ},¬(0<=aw/\aw<=1099511627776/\1<=ts.length/\ts.length<=8)->SL W (.mem H::F) w->∃post,bA (.bool (iw aw ts)) [.mem H] (.bool false) post/\SL W (app post F) w:=λdX hS=>⟨_,⟨by unfold iw;rw[zzx dX];rfl,rfl⟩,hS⟩;refine Gp ?_;refine za (λh=>hF (by omega) hS) (λh1=>?_);refine Gp ?_;refine za (λh=>hF (by omega) hS) (λh2=>?_);refine yS hv ?_;refine Gp ?_;refine za (λh=>hF (by omega) hS) (λh3=>?_);refine yS hv ?_;refine Gp ?_;refine za (λh=>hF (by omega) hS) (λh4=>?_);refine yS hv ?_;have hM:iw aw ts=ts.all p3:=by unfold iw;rw[zzm (show 0<=aw/\aw<=1099511627776/\1<=ts.length/\ts.length<=8 by omega)];rfl
 refine⟨λus w=>∃i:Nat,us=[Γ i]/\i<=ts.length/\(∀j (h:j<ts.length),j<i->p3 ts[j]=true)/\SL W (.mem H::F) w,λus _=>match us with|[.int _ i]=>(ts.length-i).toNat|_=>0,⟨0,rfl,by omega,λj h hj=>by omega,hS⟩,?_⟩;clear hS;rintro v25 w ⟨i,bM,hi,dh,hS⟩;cases bM;refine bj (λh=>?_) (λh=>?_)
 ·have bn:i<ts.length:=by omega
  refine Y2 hS Xh hv bn λu hu=>?_;refine Cg (Yr H u ts[i] hu (hc _ (zzk bn))) λw hS=>?_;refine zw (λhb=>?_) (λhb=>?_)
  ·refine⟨_,⟨?_,rfl⟩,hS⟩;rw[hM,show ts.all p3=false from uuy.2 ⟨_,zzk bn,by rw[hb];decide⟩]
  refine Gp ?_;refine⟨⟨i+1,rfl,by omega,λj hj gZ=>?_,hS⟩,by dsimp only;omega⟩;by_cases e:j=i
  ·subst e;exact hb
  exact dh j hj (by omega)
 refine⟨_,⟨?_,rfl⟩,hS⟩;rw[hM,show ts.all p3=true from zz7.2 λC hC=>by
  obtain⟨j,hj,rfl⟩:=yyh hC;exact dh j hj (by omega)]
def rI(aw:Int)(ts:List (List Row))(i:Nat):List cA:=[iF aw,iF ts.length]++((ts.take i).map nD).flatten
def sK(aw:Int)(ts:List (List Row))(i:Nat)(C:List Row)(j:Nat):List cA:=rI aw ts i++(iF C.length::((C.take j).map tI).flatten)
def bdv{aw:Int}{ts:List (List Row)}{i:Nat}(h:i<ts.length):rI aw ts (i+1)=sK aw ts i ts[i] ts[i].length:=by
 unfold rI sK rI nD;rw[zze h,zzr,yyq,xxk,wwa,zz0,zzg]
def bdx{aw:Int}{ts:List (List Row)}{i:Nat}{C:List Row}{j:Nat}(h:j<C.length):sK aw ts i C (j+1)=sK aw ts i C j++[iF C[j].key]++[tF C[j].val]:=by
 unfold sK;rw[zze h,zzr,yyq,xxk,wwa];simp[tI]
def bdu(aw:Int)(ts:List (List Row)):rI aw ts ts.length=mg aw ts:=by unfold rI mg;rw[zz0]
def Sq{aw:Int}{ts:List (List Row)}(h:∀C∈ts,C.length<=1000)(i:Nat):(rI aw ts i).length<=2+ts.length*2001:=by
 have k:=tK (f:=nD) (k:=2001) (ts.take i) λC hC=>by rw[Sz];have:=h C (yyg hC);omega
 have:(ts.take i).length*2001<=ts.length*2001:=yy3 _ (by rw[zzf];omega);unfold rI;rw[zza];simp only[zzi,yyw];omega
def bdw{aw:Int}{ts:List (List Row)}(h:∀C∈ts,C.length<=1000)(i:Nat){C:List Row}(hC:C.length<=1000)(j:Nat):(sK aw ts i C j).length<=2003+ts.length*2001:=by
 have h1:=Sq (aw:=aw) h i;unfold sK;rw[zza,zzi,Ah (f:=tI) (k:=2) (λ_=>rfl),zzf];omega
def DF(H:a_)(aw:Int)(ts:List (List Row))(u:Ε)(post:Β):Prop:=match Ee aw ts with
 | .error e=>u= .tuple #[Θ,Γ e]/\post=[.mem H]
 | .ok b=>∃v,u= .tuple #[v,Γ 0]/\post=[.ob (bd v 5 1 b.length (b.map bU)),.mem H]
def qE(H:a_)(v:Ε)(aw:Int)(ts:List (List Row))(hv:uK H v ts)(hn:ts.length<=140737488351232)(hc:∀C∈ts,C.length<=140737488351232):SP 213 [Γ aw,v] [.mem H] (DF H aw ts):=by
 refine Enzz λW F w hS=>?_;apply bFe;delta aI aW bJ ai bK bc;refine Cg (Zl H v aw ts hv hn hc) λw hS=>?_;refine zw (λh=>?_) (λhm=>?_)
 ·exact⟨[.mem H],by unfold DF Ee;rw[zzb (by rw[h];decide)];exact⟨rfl,rfl⟩,aR hS⟩
 obtain⟨hb,hT⟩:=sf.1 hm;have tP:∀C∈ts,C.length<=1000:=λC hC=>(hT C hC).len;have h8:ts.length*2001<=8*2001:=yy3 _ (by omega);refine yS hv ?_;refine Gm λb w hS=>?_;refine Cc (Jk b aw ts.length 2) ?_;clear hS;rintro u post rfl w hS;try simp only[app]at hS
 refine yS hv ?_;have hS:SL W (gD u (rI aw ts 0)::_) _:=hS;refine⟨λus w=>∃(i:Nat) (u:Ε),us=[u,Γ i]/\i<=ts.length/\SL W (gD u (rI aw ts i)::.mem H::F) w,λus _=>match us with|[_,.int _ i]=>(ts.length-i).toNat|_=>0,⟨0,_,rfl,by omega,aR hS⟩,?_⟩;clear hS;rintro u v24 w ⟨i,_,bM,hi,hS⟩;cases bM;have oe:=Sq (aw:=aw) tP i;refine bj (λh=>?_) (λh=>?_)
 ·have bn:i<ts.length:=by omega
  have hs:=bdv (aw:=aw) bn;have Ez:=tP _ (zzk bn);refine Y2 hS Xh hv bn λcv rQ=>?_;generalize ts[i]=C at *
  refine zn rQ ?_;refine Gm λb w hS=>?_;refine Cc (rY b C.length 2) ?_;clear hS;rintro u2 post rfl w hS;try simp only[app]at hS
  refine zE (L:=rI aw ts i) hS Xr (jh hS Xh) (by simp;omega) λu3 w hS=>?_;refine zn rQ ?_;have hS:SL W (gD u3 (sK aw ts i C 0)::_) _:=hS;refine⟨λus w=>∃(j:Nat) (u:Ε),us=[u,Γ j]/\j<=C.length/\SL W (gD u (sK aw ts i C j)::.mem H::F) w,λus _=>match us with|[_,.int _ i]=>(C.length-i).toNat|_=>0,⟨0,_,rfl,by omega,aR hS⟩,?_⟩;clear hS;rintro u v36 w ⟨j,_,bM,hj,hS⟩;cases bM;have Ak:=bdw (aw:=aw) tP i Ez j;refine bj (λh=>?_) (λh=>?_)
  ·have fY:j<C.length:=by omega
   have hs2:=bdx (aw:=aw) (ts:=ts) (i:=i) fY;refine zB hS Xh iK rQ (x:=C[j]) (by simp[fY]) fY ?_;generalize C[j]=r at *
   obtain⟨rk,rv⟩:=r;rw[Ef];refine Gm λb w hS=>?_;refine Gm λb w hS=>?_;refine Cc (rY b rk 2) ?_;clear hS;rintro u4 post rfl w hS;try simp only[app]at hS
   refine zE (L:=sK aw ts i C j) hS Xr (jh hS Xh) (by simp;omega) λu5 w hS=>?_;refine Gp ?_;refine Cg (yj rv) λw hS=>?_;refine Gm λb w hS=>?_;refine zE (M:=[tF rv]) hS Xr (Ba hS Xh) (by simp;omega) λu6 w hS=>?_;refine Gp ?_;refine⟨⟨j+1,_,rfl,by omega,?_⟩,by dsimp only;omega⟩;rw[hs2];exact aR hS
  obtain rfl:j=C.length:=by omega
  refine Gp ?_;refine⟨⟨i+1,_,rfl,by omega,?_⟩,by dsimp only;omega⟩;rw[hs];exact hS
 obtain rfl:i=ts.length:=by omega
 rw[bdu]at hS oe
 refine Cc (yr (gD u (mg aw ts)) u (mg aw ts) px.own (by omega)) ?_;clear hS;rintro r post hq w hS;try simp only[app]at hS
 have he:=(UJ hm).1;have hl:=AQ hm;unfold pq at hq;rw[he]at hq
 obtain⟨bv,rfl,rfl⟩:=hq;(try simp only[app]at hS);refine Gp ?_
 refine Χ ?_;refine Cc (Z9 _ bv (iC aw ts) cK.own (by omega)) ?_;clear hS;rintro r post hq w hS;try simp only[app]at hS
 unfold sB at hq;rw[zzb (by omega)]at hq
 obtain⟨ov,rfl,rfl⟩:=hq;(try simp only[app]at hS);refine Gp ?_
 exact⟨_,by unfold DF Ee;rw[zzc hm];exact⟨ov,rfl,rfl⟩,aR hS⟩
def bAk(r:bP):rh r=gj vJ (bN 1000 r).1.toNat (bN 1000 r).2:=rfl
def QP(rp:Nat)(r:bP):SP 275 [Δ rp] [.ob (dc rp r)] (λv post=>(rh r).1.length<=1000/\post=[eI v (rh r).1,.ob (dc rp (rh r).2)]):=by
 refine Enzz λW F w hS=>?_;apply bGu;delta aI ai bK bc;rw[bAk];have kG:=q' (m:=1000) (by decide) r;refine Cc (zp rp r 1000) ?_;clear hS;rintro v1 post ⟨rfl,rfl⟩ w hS;try simp only[app]at hS
 generalize (bN 1000 r).1=n1 at *
 generalize (bN 1000 r).2=r2 at *
 have hS:SL W (eI Θ []::_) _:=bd.nil hS;refine⟨λus w=>∃(k:Nat) (rs:List Row) (r:bP) (rv:Ε),us=[rv,Γ k]/\ni vJ n1.toNat r2 rs k r/\SL W (eI rv rs::.ob (dc rp r)::F) w,
  λus _=>match us with|[_,.int _ i]=>i.toNat|_=>0,⟨n1.toNat,[],r2,Θ,by rw[show ((n1.toNat:Nat):Int)=n1 by omega],ni.start _ _ _,aR hS⟩,?_⟩
 clear hS;rintro v3 v4 w ⟨k,rs,r,rv,bM,hM,hS⟩;cases bM;have hle:=hM.le;refine bj (λh=>?_) (λh=>?_)
 ·obtain⟨k,rfl⟩:∃j,k=j+1:=⟨k-1,by omega⟩;refine Cg (yO rp r) λw hS=>?_;refine zw (λhb=>?_) (λhb=>?_)
  ·have hM:=hM.step hb;refine Cc (zG rp r) ?_;clear hS;rintro v1 post ⟨rfl,rfl⟩ w hS;try simp only[app]at hS
   refine Cg (zZ rp _) λw hS=>?_;refine Gm λb w hS=>?_;refine yf (n:=rs.length) (xs:=rs) (y:=(vJ r).1) (enc:=dV) hS Xr Xh iK (λx=>uV x) rfl (by omega) (by omega) λu w hS=>?_;refine Gp ?_;refine⟨⟨k,_,_,u,by rw[show ((k+1:Nat):Int)-1=(k:Int) by omega],hM,?_⟩,by dsimp only;omega⟩;have hS:=hS.nf (x:=(vJ r).1);have hS:SL W (eI u (rs++[(vJ r).1])::_::.ob (dc rp (vJ r).2)::F) _:=hS;exact aR hS
  rw[hM.stop (.inr hb)];exact⟨_,⟨by show rs.length<=1000;omega,rfl⟩,aR hS⟩
 rw[hM.stop (.inl (by omega))];exact⟨_,⟨by show rs.length<=1000;omega,rfl⟩,aR hS⟩
def mI.nil(H:a_):mI H [] []:=⟨rfl,λi v C h1 h2=>by simp at h1⟩
def mI.snoc{H:a_}{vs:Ξ}{ts:List (List Row)}(h:mI H vs ts){v:Ε}{C:List Row}(hv:cn H 2 v C.length (C.map dV).flatten):mI H (vs++[v]) (ts++[C]):=by
 have hl:=h.1;refine⟨by rw[zza,zza,hl];rfl,λi u D h1 h2=>?_⟩;rcases xxz i vs.length with hi|hi
 ·rw[zzy hi]at h1
  rw[zzy (by omega)]at h2
  exact h.2 i u D h1 h2
 rw[yyk hi]at h1
 rw[yyk (by omega)]at h2
 obtain⟨e,rfl⟩:i-vs.length=0/\v=u:=by
  cases hk:i-vs.length with
  | zero=>rw[hk]at h1;exact⟨rfl,by simpa using h1⟩
  | succ n=>rw[hk]at h1;simp at h1
 rw[show i-ts.length=0 by omega]at h2
 obtain rfl:C=D:=by simpa using h2
 exact hv
def Bm(X:Μ)(H:a_)(b:Φ)(u:Ε)(post:Β):Prop:=match jN b with
 | none=>u= .tuple #[Γ 0,Θ,Γ 3]/\∃H',H.le H'/\post=[X,.mem H']
 | some x=>∃v H',H.le H'/\uK H' v x.2/\u= .tuple #[Γ x.1,v,Γ 0]/\post=[X,.mem H']
def UK{l:List cA}(h:¬((lR ⟨l,false⟩).2.bad=false/\(lR ⟨l,false⟩).2.l=[]/\iw (lR ⟨l,false⟩).1.1 (lR ⟨l,false⟩).1.2=true)):uk l=none:=by
 unfold uk;simp only;rw[zzb h]
def bmj{l:List cA}(h:(lR ⟨l,false⟩).2.bad=false/\(lR ⟨l,false⟩).2.l=[]/\iw (lR ⟨l,false⟩).1.1 (lR ⟨l,false⟩).1.2=true):uk l=some (lR ⟨l,false⟩).1:=by
 unfold uk;simp only;rw[zzc h]
structure Gv(l:List cA)(aw:Int)(r1:bP):Prop where
 aw:(lR ⟨l,false⟩).1.1=aw
 ts:(lR ⟨l,false⟩).1.2=(gM rh (bN 8 r1).1.toNat (bN 8 r1).2).1
 rd:(lR ⟨l,false⟩).2=(gM rh (bN 8 r1).1.toNat (bN 8 r1).2).2
def Gv.is(l:List cA):Gv l (dM ⟨l,false⟩).1 (dM ⟨l,false⟩).2:=⟨rfl,rfl,rfl⟩
def qD(X:Μ)(H:a_)(v:Ε)(bs:Φ)(hv:cK X v bs)(hN:bs.length<=140737488355328):SP 227 [v] [X,.mem H] (Bm X H bs):=by
 refine Enzz λW F w hS=>?_;apply bFm;delta aI bJ ai bc;have dX:jN bs=none->∀{w:Ζ} {H':a_},H.le H'->SL W (X::.mem H'::F) w->∃post,Bm X H bs (.tuple #[Γ 0,Θ,Γ 3]) post/\SL W (app post F) w:=λh w H' hh hS=>⟨[X,.mem H'],by unfold Bm;rw[h];exact⟨rfl,H',hh,rfl⟩,hS⟩;refine Cc (YS X v bs hv hN) ?_;clear hS;rintro r post hq w hS;unfold tn at hq;cases ht:f_ bs with
 | error e=>
  rw[ht]at hq
  obtain⟨rfl,rfl⟩:=hq;have hd:jN bs=none:=by unfold jN;rw[ht]
  have he:e≠0:=by have:=Xy ht;omega
  (try simp only[app]at hS);refine Gp ?_
  exact za (λ_=>dX hd (a_.le_refl H) (aR hS)) (λh=>absurd he h)
 | ok pn=>
  obtain⟨p,n⟩:=pn;rw[ht]at hq
  obtain⟨pv,rfl,rfl⟩:=hq;(try simp only[app]at hS);refine Gp ?_
  refine Χ ?_;refine yt hS Xh hv ?_;refine bj (λh=>?_) (λh=>?_)
  ·have hd:jN bs=none:=by unfold jN;rw[ht];simp only;rw[zzb (by omega)]
   exact dX hd (a_.le_refl H) (aR hS)
  have E_:n=bs.length:=by omega
  refine Cc (yq _ pv p cK.own) ?_;clear hS;rintro r post hq w hS;unfold uH at hq;cases hd:gJ p with
  | error e=>
   rw[hd]at hq
   obtain⟨rfl,rfl⟩:=hq;have he:=D_ hd;have hd:jN bs=none:=by unfold jN;rw[ht];simp only;rw[zzc E_,hd]
   (try simp only[app]at hS);refine Gp ?_
   exact za (λ_=>dX hd (a_.le_refl H) (aR hS)) (λh=>absurd he h)
  | ok l=>
   rw[hd]at hq
   obtain⟨lv,rfl,rfl⟩:=hq;have hI:=RR ht E_ hd;(try simp only[app]at hS);refine Gp ?_
   refine Χ ?_;refine Cc (yQ lv l) ?_;clear hS;rintro _ post ⟨rp,rfl,rfl⟩ w hS;try simp only[app]at hS
   refine Cc (zG rp ⟨l,false⟩) ?_;clear hS;rintro v1 post ⟨rfl,rfl⟩ w hS;try simp only[app]at hS
   have hR:=Gv.is l;generalize (dM ⟨l,false⟩).1=aw at *
   generalize (dM ⟨l,false⟩).2=r1 at *
   have kG:=q' (m:=8) (by decide) r1;refine Cc (zp rp r1 8) ?_;clear hS;rintro v1 post ⟨rfl,rfl⟩ w hS;try simp only[app]at hS
   have gy:=hR.ts;have cJ:=hR.rd;generalize (bN 8 r1).1=n1 at *
   generalize (bN 8 r1).2=r2 at *
   have hS:SL W (.ob (bd Θ 115 1 ([]:List (List Row)).length [])::_) _:=bd.nil hS;refine⟨λus w=>∃(k:Nat) (ts:List (List Row)) (r:bP) (tv:Ε) (vs:Ξ) (H':a_),us=[tv,Γ k]/\kW rh n1.toNat r2 ts k r/\(∀C∈ts,C.length<=1000)/\H.le H'/\mI H' vs ts/\SL W (.ob (bd tv 115 1 ts.length vs)::.ob (dc rp r)::X::.mem H'::F) w,
    λus _=>match us with|[_,.int _ i]=>i.toNat|_=>0,⟨n1.toNat,[],r2,Θ,[],H,by rw[show ((n1.toNat:Nat):Int)=n1 by omega],kW.start _ _ _,by simp,a_.le_refl H,mI.nil H,aR hS⟩,?_⟩
   clear hS;rintro tv v12 w ⟨k,ts,r,_,vs,H',bM,hM,Ez,hh,nF,hS⟩;cases bM;have hle:=hM.le;refine bj (λh=>?_) (λh=>?_)
   ·obtain⟨k,rfl⟩:∃j,k=j+1:=⟨k-1,by omega⟩;have hM:=hM.step;refine Cc (QP rp r) ?_;clear hS;rintro rv post ⟨hl,rfl⟩ w hS;try simp only[app]at hS
    obtain⟨H2,cF,hO,hS⟩:=zA (H:=H') (v:=rv) hS Xp;have gf:=hO.one;refine zR hS (SD gf) λb w hS=>?_;refine zL (n:=ts.length) (m:=1) hS Xr (jx (cs:=[rv]) hS Xh rfl) rfl rfl (by simpa using gf) (by omega) (by omega) ?_;clear hS;intro u w hS;refine Gp ?_;refine⟨⟨k,_,_,u,vs++[rv],H2,by rw[show ((k+1:Nat):Int)-1=(k:Int) by omega],hM,λC hC=>?_,a_.le_trans hh cF,(nF.mono cF).snoc hO,?_⟩,by dsimp only;omega⟩
    ·rcases zz4.1 hC with hC|hC
     ·exact Ez C hC
     rw[zz8.1 hC];exact hl
    have hS:=hS.nf (x:=(rh r).1);exact aR hS
   obtain rfl:k=0:=by omega
   rw[hM.stop]at gy cJ
   have gy:(lR ⟨l,false⟩).1.2=ts:=gy;have cJ:(lR ⟨l,false⟩).2=r:=cJ;have kF:=hR.aw;obtain⟨H2,cF,hO,hS⟩:=zA (H:=H') (v:=tv) hS Xp;have dW:=a_.le_trans hh cF;have hT:uK H2 tv ts:=⟨vs,hO,nF.mono cF⟩;refine Cg (yN rp r) λw hS=>?_;refine zw (λhb=>?_) (λhb=>?_)
   ·have hb:=yyu hb;exact dX (by rw[hI];exact UK λh=>hb ⟨by rw[<- cJ];exact h.1,by rw[<- cJ];exact h.2.1⟩) dW (aR hS)
   have hb:=zzt hb;refine Cg (Zl H2 tv aw ts hT (by omega) (λC hC=>by have:=Ez C hC;omega)) λw hS=>?_;refine zw (λhm=>?_) (λhm=>?_)
   ·exact dX (by rw[hI];exact UK λh=>by rw[kF,gy,hm]at h;cases h.2.2) dW (aR hS)
   skip
   have he:=bmj (l:=l) ⟨by rw[cJ];exact hb.1,by rw[cJ];exact hb.2,by rw[kF,gy];exact hm⟩;refine⟨[X,.mem H2],?_,aR hS⟩;unfold Bm;rw[hI,he];simp only;rw[kF,gy];exact⟨tv,H2,dW,hT,rfl,rfl⟩
abbrev lA(tp dp lp:Nat)(db image:Int):Ξ:=[bx tp,bx dp,bx lp,Γ db,Γ image]
def b8(sp tp dp lp:Nat)(k:bQ):zC:=zF True [.pt sp (lA tp dp lp k.db k.image) 157,.ob (dd tp k.ts),.ob (b7 lp dp k.g)]
section
variable {W w:Ζ} {l F:Β} {sp tp dp lp:Nat}
def b8.iff{k:bQ}:SL W (.ob (b8 sp tp dp lp k)::l) w↔SL W (.pt sp (lA tp dp lp k.db k.image) 157::.ob (dd tp k.ts)::.ob (b7 lp dp k.g)::l) w:=by
 unfold b8;simp only[SL.fact,uus,zzn,zzo]
def b8.put(k:bQ)(hS:SL W l w)(p:fK [.pt sp (lA tp dp lp k.db k.image) 157,.ob (dd tp k.ts),.ob (b7 lp dp k.g)] l F):SL W (.ob (b8 sp tp dp lp k)::F) w:=b8.iff.2 (hS.pick p)
end
def b8.dI{W w:Ζ}{l F:Β}{sp tp dp lp:Nat}{g:bV}{d:DS}{ts:gY}{db image:Int}(hS:SL W l w)(p:fK [.pt sp (lA tp dp lp db image) 157,.ob (dd tp ts),.ob (b7 lp dp g)] l F):SL W (.ob (b8 sp tp dp lp ⟨g,d,ts,db,image⟩)::F) w:=b8.iff.2 (hS.pick p)
structure iP(k:bQ)(N:Nat):Prop where
 g:gX k.g N
 d:k.d.Ok N
 rows:∀C∈k.ts,mJ C
 len:∀C∈k.ts,C.length<=1000
 n1:1<=k.ts.length
 n8:k.ts.length<=8
section
variable (sp tp dp lp:Nat) (k:bQ) {N:Nat} (hg:gX k.g N) (hN:N<=1000000000)
include hg hN
def zN:SP 46 [bx sp] [.ob (b8 sp tp dp lp k)] (bA (Γ (bH k.g.bf)) [.ob (b8 sp tp dp lp k)]):=by
 refine Enzz λW F w hS=>?_;apply bIn;delta bh bk;have hS:=b8.iff.1 hS;refine Gp ?_;refine Cg (Z3 lp dp k.g hg.ok (by omega)) λw hS=>?_;exact⟨_,⟨rfl,rfl⟩,SL.bo (b8.put k hS Xp) Xi⟩
def ZC:SP 47 [bx sp] [.ob (b8 sp tp dp lp k)] (bA (Γ (dH k.g.bf)) [.ob (b8 sp tp dp lp k)]):=by
 refine Enzz λW F w hS=>?_;apply bIo;delta bh bk;have hS:=b8.iff.1 hS;refine Gp ?_;refine Cg (Zv lp dp k.g hg.ok (by omega)) λw hS=>?_;exact⟨_,⟨rfl,rfl⟩,SL.bo (b8.put k hS Xp) Xi⟩
def BD(sp tp dp lp:Nat)(k:bQ)(H:a_)(aw:Int)(r:Ε)(post:Β):Prop:=match k.gA aw with
 | .error e=>e≠0/\∃H',H.le H'/\r= .tuple #[agg (eb xD),Γ e]/\post=[.ob (b8 sp tp dp lp k),.mem H']
 | .ok t=>∃x H',H.le H'/\r= .tuple #[agg (eb x),Γ 0]/\lE H' x t/\post=[.ob (b8 sp tp dp lp k),.mem H']
def BE(sp tp dp lp:Nat)(k:bQ)(H:a_)(aw:Int)(r:Ε)(post:Β):Prop:=match k.gA aw with
 | .error e=>e≠0/\r= .tuple #[agg (eb xD),Γ e]/\post=[.ob (b8 sp tp dp lp k),.mem H]
 | .ok t=>∃x:l_,r= .tuple #[agg (eb x),Γ 0]/\(x.aw=t.aw/\x.kind=t.kind/\x.mark=t.mark)/\post=[l7 x.cv t.changes,l9 x.sv t.signals,.ob (b8 sp tp dp lp k),.mem H]
def qU(H:a_)(aw:Int)(hl : -9000000000000000000<=aw/\aw<=9000000000000000000):SP 128 [bx sp,Γ aw] [.ob (b8 sp tp dp lp k),.mem H] (BE sp tp dp lp k H aw):=by
 refine Enzz λW F w hS=>?_;apply bC1;delta aI bh bk ai bc;refine Gb λzb w hS=>?_;have hS:=b8.iff.1 (SL.bo hS (t:=.ob (b8 sp tp dp lp k)::.pt zb [Γ 0,Γ 0,Θ,Θ,Γ 0] 151::.mem H::F) Xi);refine Gp ?_;refine Cc (Yb lp dp k.g hg.ok (by omega) aw hl) ?_;clear hS;rintro r post hq w hS;unfold DK at hq;cases hr:lY k.g.bf aw with
 | none=>
  rw[hr]at hq
  obtain⟨rfl,rfl⟩:=hq;have he:k.gA aw= .error 5:=by unfold bQ.gA;rw[hr]
  try simp only[app]at hS
  have hS:=b8.put k hS Xp;refine Gp ?_;refine Υ ?_;refine Gn λw hS=>?_;exact⟨[.ob (b8 sp tp dp lp k),.mem H],by unfold BE;rw[he];exact⟨by decide,rfl,rfl⟩,aR hS⟩
 | some bs=>
  rw[hr]at hq
  obtain⟨u,rfl,rfl⟩:=hq;have he:k.gA aw=jO bs:=by unfold bQ.gA;rw[hr]
  try simp only[app]at hS
  have hS:=b8.put k hS Xp;refine Gp ?_;refine Χ ?_;refine Cc (ZK (.ob (bd u 5 1 bs.length (bs.map bU))) H u bs cK.own) ?_;clear hS;rintro r post hq w hS;unfold vT at hq;cases hd:jO bs with
  | error e=>
   rw[hd]at hq
   obtain⟨cY,rfl,rfl⟩:=hq;try simp only[app]at hS
   unfold eb xD;refine Gn λw hS=>?_;refine⟨[.ob (b8 sp tp dp lp k),.mem H],?_,aR hS⟩;unfold BE;rw[he,hd];exact⟨cY,rfl,rfl⟩
  | ok t=>
   rw[hd]at hq
   obtain⟨x,rfl,hx,rfl⟩:=hq;try simp only[app]at hS
   have gf:x.cv.oneCell'=true:=bd.one (hS.perm (eW.perm (c:=l7 x.cv t.changes) Xr));have ll:x.sv.oneCell'=true:=bd.one (hS.perm (eW.perm (c:=l9 x.sv t.signals) Xr));refine Gp ?_;refine zr (vs:=eb x) hS Xu rfl rfl (Ab (aw:=x.aw) (kind:=x.kind) (mark:=x.mark) gf ll) λw hS=>?_;refine zz hS Xh rfl ?_;refine⟨[l7 x.cv t.changes,l9 x.sv t.signals,.ob (b8 sp tp dp lp k),.mem H],?_,aR hS⟩;unfold BE;rw[he,hd];exact⟨x,rfl,hx,rfl⟩
def Ze(H:a_)(aw:Int)(hl : -9000000000000000000<=aw/\aw<=9000000000000000000):SP 128 [bx sp,Γ aw] [.ob (b8 sp tp dp lp k),.mem H] (BD sp tp dp lp k H aw):=by
 intro W F w hS;refine zJ.mono (qU sp tp dp lp k hg hN H aw hl W F w hS) ?_;rintro u w ⟨post,hq,hS⟩;unfold BE at hq;unfold BD;cases hd:k.gA aw with
 | error e=>
  rw[hd]at hq
  obtain⟨cY,rfl,rfl⟩:=hq;exact⟨_,⟨cY,H,a_.le_refl H,rfl,rfl⟩,hS⟩
 | ok t=>
  rw[hd]at hq
  obtain⟨x,rfl,⟨e1,e2,e3⟩,rfl⟩:=hq;try simp only[app]at hS
  obtain⟨H1,bX,hO,hS⟩:=bd.freeze (SL.bo hS (t:=.mem H::l7 x.cv t.changes::l9 x.sv t.signals::.ob (b8 sp tp dp lp k)::F) Xi);obtain⟨H2,cF,hN,hS⟩:=bd.freeze hS;rw[Gc]at hN
  exact⟨[.ob (b8 sp tp dp lp k),.mem H2],⟨x,H2,a_.le_trans bX cF,rfl,⟨e1,e2,e3,hO.mono cF,hN⟩,rfl⟩,aR hS⟩
end
section
variable (sp tp dp lp:Nat) (k:bQ)
def qR(t key n:Int)(hn:∀C∈k.ts,C.length<=1000000)(hs:∀C∈k.ts,ff C)(h1 : -1000000<=n)(h2:n<=9000000000000000000):SP 136 [bx sp,Γ t,Γ key,Γ n] [.ob (b8 sp tp dp lp k)] (λu post=>post=[eI u (k.wg t key n),.ob (b8 sp tp dp lp k)]):=by
 refine Enzz λW F w hS=>?_;apply bC9;delta bh;have hS:=b8.iff.1 hS;refine Gp ?_;refine Cc (qX tp k.ts t key n hn hs h1 h2) ?_;clear hS;rintro u post rfl w hS;try simp only[app]at hS
 exact⟨_,rfl,SL.bo (t:=eI u (nj (iG k.ts t) key n)::.ob (b8 sp tp dp lp k)::F) (b8.put k hS Xp) Xi⟩
end
def ZX(H:a_)(v:Ε)(l:List da)(n:Int)(hv:cn H 4 v l.length (l.map eM).flatten)(hl:l.length<=140737488351232):SP 77 [v,Γ n] [.mem H] (bA (.bool (decide (∀c∈l,c.table<n))) [.mem H]):=by
 refine Enzz λW F w hS=>?_;apply bJl;delta aI aW br ai bK;refine zn hv ?_;refine⟨λus w=>∃i:Nat,us=[Γ i]/\i<=l.length/\(∀j (h:j<l.length),j<i->l[j].table<n)/\SL W (.mem H::F) w,λus _=>match us with|[.int _ i]=>(l.length-i).toNat|_=>0,⟨0,rfl,by omega,λj h hj=>by omega,hS⟩,?_⟩;clear hS;rintro v9 w ⟨i,bM,hi,dh,hS⟩;cases bM;refine bj (λh=>?_) (λh=>?_)
 ·have bn:i<l.length:=by omega
  refine zB hS Xh pF hv (x:=l[i]) (by simp[bn]) bn ?_;have hf:¬l[i].table<n->decide (∀c∈l,c.table<n)=false:=λh=>zzx λh2=>h (h2 _ (zzk bn));have Ij:l[i].table<n->∀j (h:j<l.length),j<i+1->l[j].table<n:=λh j hj gZ=>by
   by_cases e:j=i
   ·subst e;exact h
   exact dh j hj (by omega)
  clear dh;generalize l[i]=c at *
  obtain⟨ct,ck,cg,cv⟩:=c;rw[Sh];refine Gm λb w hS=>?_;refine za (λhb=>?_) (λhb=>?_)
  ·rw[hf (by show ¬ct<n;omega)];(exact bw hS)
  refine Gp ?_;refine⟨⟨i+1,rfl,by omega,Ij (by show ct<n;omega),aR hS⟩,by dsimp only;omega⟩
 rw[show decide (∀c∈l,c.table<n)=true from zzm λc hc=>by
  obtain⟨j,hj,rfl⟩:=yyh hc;exact dh j hj (by omega)]
 (exact bw hS)
def Vt{t:bD}(h:c_ t=true){n:Int}(h1:1<=n)(h2:n<=1099511627776):c_ {t with aw:=n}=true:=by
 obtain⟨_,h3⟩:=ur.1 h;exact ur.2 ⟨⟨h1,h2⟩,h3⟩
abbrev xE(sp tp dp lp:Nat)(H:a_)(y:bQ × (Int × Int)):Ε->Β->Prop:=bA (.tuple #[Γ y.2.1,Γ y.2.2]) [.ob (b8 sp tp dp lp y.1),.ob (bm dp y.1.d),.mem H]
def YO(sp tp dp lp:Nat)(k:bQ)(H:a_)(x:l_)(t:bD)(hx:lE H x t)(hm:c_ t=true){N:Nat}(hk:iP k N)(hN:N<=1000000000)(cZ:k.d.ops<=90000):
  SP 79 [bx sp,agg (eb x)] [.ob (b8 sp tp dp lp k),.ob (bm dp k.d),.mem H] (xE sp tp dp lp H (k.fL t)):=by
 refine Enzz λW F w hS=>?_;apply bJn;delta aI bh aW bJ ai;have hg:=hk.g;obtain⟨ht1,Fh,I5,ht4,ht5,Ur,ht7⟩:=kr hm;have hd0:=sW hg.ok.bf;have IL:∀C∈k.ts,C.length<=1000000:=λC hC=>by have:=hk.len C hC;omega
 have eN:∀C∈k.ts,ff C:=λC hC=>(hk.rows C hC).sorted;have h8:=hk.n8;refine zx hS λxb w hS=>?_;unfold eb at hS;rw[hx.aw,hx.kind,hx.mark]at hS
 have hS:=b8.iff.1 (SL.bo hS (t:=.ob (b8 sp tp dp lp k)::tq xb x t::.ob (bm dp k.d)::.mem H::F) Xi);refine Gp ?_;refine Cg (zH dp k.d) λw hS=>?_;cases ho:k.d.off with
 | true=>
  refine zu ?_;rw[show k.fL t=(k,(0,8)) by unfold bQ.fL;rw[zzc ho]];exact⟨_,⟨rfl,rfl⟩,SL.bo (b8.put k hS Xp) Xi⟩
 | false=>
  refine zq ?_;refine Gn λw hS=>?_;refine Cg (bBe tp k.ts H x.cv t.changes hx.cv (by omega) eN IL (by omega) (by omega)) λw hS=>?_;refine zw (λhf=>?_) (λhf=>?_)
  ·rw[show k.fL t=(k,(0,7)) by unfold bQ.fL;rw[zzb (by simp[ho]),zzc (.inl hf)]];exact⟨_,⟨rfl,rfl⟩,SL.bo (b8.put k hS Xp) Xi⟩
  have hS:=b8.put k hS Xp;refine Cg (zN sp tp dp lp k hg hN) λw hS=>?_;refine za (λhh=>?_) (λhh=>?_)
  ·rw[show k.fL t=(k,(0,7)) by unfold bQ.fL;rw[zzb (by simp[ho]),zzc (.inr hh)]];exact bw hS
  refine Cg (zN sp tp dp lp k hg hN) λw hS=>?_;have t_:=Vt hm (n:=bH k.g.bf+1) (by omega) (by omega);have nK:lE H ⟨bH k.g.bf+1,t.kind,x.cv,x.sv,t.mark⟩ {t with aw:=bH k.g.bf+1}:=⟨rfl,rfl,rfl,hx.cv,hx.sv⟩;have Te:k.fL t=(let r:=d_ k.g k.d (fC {t with aw:=bH k.g.bf+1});if r.2.2=0 then ({k with g:=r.1.1,d:=r.1.2,ts:=eZ k.ts t.changes},(bH k.g.bf+1,0)) else ({k with g:=r.1.1,d:=r.1.2},(0,r.2.2))):=by
   unfold bQ.fL;rw[zzb (by simp[ho]),zzb (by rw[hf];simp;omega)]
  have o7:=Hj t_;have Tj:=Rm t_;rw[Te];clear Te;generalize hq:({t with aw:=bH k.g.bf+1}:bD)=t2 at *
  have Ax:1<=bH k.g.bf+1:=by omega
  generalize bH k.g.bf+1=aw at *
  refine Cc (Z8 H ⟨aw,t.kind,x.cv,x.sv,t.mark⟩ t2 nK) ?_;clear hS;rintro r post hq w hS;unfold Bq at hq;rw[Tj]at hq
  obtain⟨bv,rfl,rfl⟩:=hq;try simp only[app]at hS
  have hS:=b8.iff.1 (SL.bo hS (t:=.ob (b8 sp tp dp lp k)::.ob (bd bv 5 1 (mN t2).length ((mN t2).map bU))::.ob (bm dp k.d)::.pt xb [Γ aw,Γ t.kind,x.cv,x.sv,Γ t.mark] 151::.mem H::F) Xi);refine Gp ?_;refine⟨λus w=>us=[Γ (d_ k.g k.d (fC t2)).2.2]/\SL W (.ob (b7 lp dp (d_ k.g k.d (fC t2)).1.1)::.ob (bm dp (d_ k.g k.d (fC t2)).1.2)::.pt sp (lA tp dp lp k.db k.image) 157::.ob (dd tp k.ts)::.pt xb [Γ aw,Γ t.kind,x.cv,x.sv,Γ t.mark] 151::.mem H::F) w,?_,?_⟩
  ·refine Gp ?_;refine Υ ?_;refine Gp ?_;refine Cg (Zg (.ob (bd bv 5 1 (mN t2).length ((mN t2).map bU))) lp dp k.g k.d bv (mN t2) cK.own (by omega) hg.ok (by omega) hk.d (by omega) cZ) λw hS=>?_;exact aR hS
  clear hS;rintro v7 w ⟨bM,hS⟩;cases bM;generalize d_ k.g k.d (fC t2)=r at *
  obtain⟨⟨g',d'⟩,n',e'⟩:=r;simp only at hS ⊢;refine bj (λhe=>?_) (λhe=>?_)
  ·rw[zzb he];exact⟨_,⟨rfl,rfl⟩,SL.bo (b8.dI (d:=d') hS Xp) Xi⟩
  have he:e'=0:=by omega
  rw[zzc he];refine Gn λw hS=>?_;refine Cg (ZP tp k.ts H x.cv t.changes hx.cv (by omega) eN 1000 hk.len (by omega)) λw hS=>?_;have dh:t.changes.all (gu k.ts.length)=true:=by
   unfold mh at hf;rw[zzs]at hf
   exact hf.1
  rw[zzc dh]at hS
  exact⟨_,⟨rfl,rfl⟩,SL.bo (b8.dI (d:=d') hS Xp) Xi⟩
def Y9(sp tp dp lp:Nat)(k:bQ)(H:a_)(sv cv:Ε)(sg:Ψ)(l:List da)(hs:cn H 1 sv sg.length (sg.map Value.string))(hc:cn H 4 cv l.length (l.map eM).flatten)(hl:l.length<=140737488351232){N:Nat}(hk:iP k N)(hN:N<=1000000000)(cZ:k.d.ops<=90000):
  SP 40 [bx sp,sv,cv] [.ob (b8 sp tp dp lp k),.ob (bm dp k.d),.mem H] (xE sp tp dp lp H (k.nz sg l)):=by
 refine Enzz λW F w hS=>?_;apply bIj;delta bh bJ ai bc;have w_:=hs.one;have gf:=hc.one;have hx:lE H ⟨1,1,cv,sv,0⟩ ⟨1,1,l,sg,0⟩:=⟨rfl,rfl,rfl,hc,hs⟩;have e0:gT [Γ 0,Γ 0,Θ,Θ,Γ 0] [(0,1,Γ 1),(1,1,Γ 1),(2,1,cv),(3,1,sv)]=some (eb ⟨1,1,cv,sv,0⟩):=by
  simp[gT,show ∀n,(Γ n).cells = #[Γ n] from λ_=>rfl,ux w_,ux gf,eb]
 refine yW e0 ?_;refine Gb λxb w hS=>?_;refine zr hS Xu rfl rfl (Ab gf w_) λw hS=>?_;refine zz hS Xh rfl ?_;refine Cg (zY H ⟨1,1,cv,sv,0⟩ ⟨1,1,l,sg,0⟩ hx) λw hS=>?_;refine zw (λhm=>?_) (λhm=>?_)
 ·rw[show k.nz sg l=(k,(0,1)) by unfold bQ.nz;rw[zzb (by rw[hm];simp)]];exact bw hS
 have hS:=b8.iff.1 (SL.bo hS (t:=.ob (b8 sp tp dp lp k)::.pt xb (eb ⟨1,1,cv,sv,0⟩) 151::.ob (bm dp k.d)::.mem H::F) Xi);refine Gp ?_;refine Cg (yy tp k.ts) λw hS=>?_;refine Cg (ZX H cv l k.ts.length hc hl) λw hS=>?_;have hS:=b8.put k hS Xp;refine zw (λhb=>?_) (λhb=>?_)
 ·have hb:=yyu hb;rw[show k.nz sg l=(k,(0,1)) by unfold bQ.nz;rw[zzb λh=>hb h.2]];exact bw hS
 have hb:=zzt hb;rw[show k.nz sg l=k.fL ⟨1,1,l,sg,0⟩ by unfold bQ.nz;rw[zzc ⟨hm,hb⟩]];refine zz hS Xh rfl ?_;refine Cg (YO sp tp dp lp k H ⟨1,1,cv,sv,0⟩ ⟨1,1,l,sg,0⟩ hx hm hk hN cZ) λw hS=>?_;exact bw hS
def lI(d:DS)(f:Int):DS × Int:=if 0<=gi d.R f then d.cut f 0 else (d,0)
def nB(d:DS)(f:Int)(b:Φ):DS × Int:=if (lI d f).2=0 then (lI d f).1.append f b else lI d f
def Sc(d:DS)(f:Int)(b:Φ):jq d f b=if (nB d f b).2=0 then (nB d f b).1.sync f else nB d f b:=by
 unfold jq nB;rw[show (if 0<=gi d.R f then d.cut f 0 else (d,0))=lI d f from rfl];generalize lI d f=c;simp only;by_cases h:c.2=0
 ·rw[zzb (by simp[h]),zzc h];generalize c.1.append f b=a;by_cases h2:a.2=0
  ·rw[zzb (by simp[h2]),zzc h2]
  rw[zzc h2,zzb h2]
 rw[zzc h,zzb h,zzb h]
def Sb{d:DS}{f:Int}{N:Nat}(h:d.Ok N):(lI d f).1.Ok N/\(lI d f).1.ops<=d.ops+1:=by
 unfold lI;split
 ·exact⟨h.cut f 0,Wb d f 0⟩
 exact⟨h,Nat.le_succ _⟩
def Sa{d:DS}{f:Int}{b:Φ}{N:Nat}(h:d.Ok N):(nB d f b).1.Ok (N+b.length)/\(nB d f b).1.ops<=d.ops+2:=by
 obtain⟨h1,h2⟩:=Sb (f:=f) h;unfold nB;split
 ·exact⟨h1.append f b,by have:=Wa (lI d f).1 f b;omega⟩
 exact⟨h1.mono (by omega),by omega⟩
def Sd{d:DS}{f:Int}{b:Φ}{N:Nat}(h:d.Ok N):(jq d f b).1.Ok (N+b.length)/\(jq d f b).1.ops<=d.ops+3:=by
 obtain⟨h1,h2⟩:=Sa (f:=f) (b:=b) h;rw[Sc];split
 ·exact⟨h1.sync f,by have:=brv (nB d f b).1 f;omega⟩
 exact⟨h1,by omega⟩
def iP.iw{k:bQ}{N:Nat}(h:iP k N):iw (bH k.g.bf) k.ts=true:=
 sf.2 ⟨⟨(sW h.g.ok.bf).1,h.g.hd,h.n1,h.n8⟩,λC hC=>⟨(h.rows C hC).sorted,(h.rows C hC).rows,h.len C hC⟩⟩
def mI.zero(H:a_)(ts:List (List Row)):mI H [] (ts.take 0):=mI.nil H
def Q1(sp tp dp lp:Nat)(k:bQ)(H:a_){N:Nat}(hk:iP k N)(hN:N<=1000000000)(cZ:k.d.ops<=90000):
  SP 145 [bx sp] [.ob (b8 sp tp dp lp k),.ob (bm dp k.d),.mem H] (λv post=>v= Γ k.ia.2/\∃H',H.le H'/\post=[.ob (b8 sp tp dp lp k.ia.1),.ob (bm dp k.ia.1.d),.mem H']):=by
 refine Enzz λW F w hS=>?_;apply bDj;delta aI bh bS ai bc;have IL:∀C∈k.ts,C.length<=1000000:=λC hC=>by have:=hk.len C hC;omega
 have h8:=hk.n8;have mT:=hk.iw;have hS:=b8.iff.1 hS;refine⟨λus w=>us=[Γ (iN k)]/\SL W (.pt sp (lA tp dp lp k.db k.image) 157::.ob (dd tp k.ts)::.ob (b7 lp dp k.g)::.ob (bm dp k.d)::.mem H::F) w,?_,?_⟩
 ·refine bj (λh=>?_) (λh=>?_)
  ·rw[show iN k=1 by unfold iN;rw[zzc h]];refine Gp ?_;first|exact hS|exact⟨rfl,hS⟩
  rw[show iN k=0 by unfold iN;rw[zzb h]];first|exact hS|exact⟨rfl,hS⟩
 clear hS;rintro v3 w ⟨bM,hS⟩;cases bM;generalize hf:iN k=f at *
 refine Gp ?_;refine Cg (yy tp k.ts) λw hS=>?_;have hS:SL W (.ob (bd Θ 115 1 (k.ts.take 0).length [])::_) _:=bd.nil hS;refine⟨λus w=>∃(i:Nat) (tv:Ε) (vs:Ξ) (H':a_),us=[tv,Γ i]/\i<=k.ts.length/\H.le H'/\mI H' vs (k.ts.take i)/\SL W (.ob (bd tv 115 1 (k.ts.take i).length vs)::.pt sp (lA tp dp lp k.db k.image) 157::.ob (dd tp k.ts)::.ob (b7 lp dp k.g)::.ob (bm dp k.d)::.mem H'::F) w,
  λus _=>match us with|[_,.int _ i]=>(k.ts.length-i).toNat|_=>0,⟨0,_,[],H,rfl,by omega,a_.le_refl H,mI.zero H k.ts,aR hS⟩,?_⟩
 clear hS;rintro tv v21 w ⟨i,_,vs,H',bM,hi,hh,hR,hS⟩;cases bM;refine bj (λh=>?_) (λh=>?_)
 ·have bn:i<k.ts.length:=by omega
  refine Gp ?_;refine Cc (bBr tp k.ts i IL) ?_;clear hS;rintro rv post rfl w hS;rw[nS k.ts i bn]at hS
  try simp only[app]at hS
  obtain⟨H2,cF,hO,hS⟩:=zA (H:=H') (v:=rv) hS Xp;have gf:=hO.one;have Ax:(k.ts.take i).length=i:=by rw[zzf];omega
  refine zR hS (SD gf) λb w hS=>?_;refine zL (n:=(k.ts.take i).length) (m:=1) hS Xr (jx (cs:=[rv]) hS Xh rfl) rfl rfl (by simpa using gf) (by omega) (by omega) ?_;clear hS;intro u w hS;have gy:k.ts.take (i+1)=k.ts.take i++[k.ts[i]]:=zze bn;refine Gp ?_;refine⟨⟨i+1,u,vs++[rv],H2,rfl,by omega,a_.le_trans hh cF,by rw[gy];exact (hR.mono cF).snoc hO,?_⟩,by dsimp only;omega⟩;have hS:=hS.nf (x:=k.ts[i]);rw[gy];exact aR hS
 obtain rfl:i=k.ts.length:=by omega
 rw[zz0]at hR hS
 obtain⟨H2,cF,hO,hS⟩:=zA (H:=H') (v:=tv) hS Xp;have dW:=a_.le_trans hh cF;have hT:uK H2 tv k.ts:=⟨vs,hO,hR.mono cF⟩;have hS:=b8.put k hS Xp;refine Cg (zN sp tp dp lp k hk.g hN) λw hS=>?_;refine Cc (qE H2 tv (bH k.g.bf) k.ts hT (by omega) (λC hC=>by have:=hk.len C hC;omega)) ?_;clear hS;rintro r post hq w hS;unfold DF Ee at hq;rw[zzc mT]at hq
 obtain⟨bv,rfl,rfl⟩:=hq;(try simp only[app]at hS);refine Gp ?_
 have o7:(bY (iC (bH k.g.bf) k.ts)).length<=400000:=by rw[jX];have:=AQ mT;omega
 have hD:k.ia=(let r:=jq k.d f (bY (iC (bH k.g.bf) k.ts));if r.2=0 then ({k with d:=r.1,db:=f,image:=bH k.g.bf},0) else ({k with d:=r.1},r.2)):=by rw[<- hf];rfl
 rw[hD];clear hD mT;generalize bY (iC (bH k.g.bf) k.ts)=B at *
 have hS:=b8.iff.1 (SL.bo hS (t:=.ob (b8 sp tp dp lp k)::.ob (bd bv 5 1 B.length (B.map bU))::.ob (bm dp k.d)::.mem H2::F) Xi);refine⟨λus w=>us=[Γ (lI k.d f).2]/\SL W (.ob (bm dp (lI k.d f).1)::.ob (bd bv 5 1 B.length (B.map bU))::.pt sp (lA tp dp lp k.db k.image) 157::.ob (dd tp k.ts)::.ob (b7 lp dp k.g)::.mem H2::F) w,?_,?_⟩
 ·refine Gp ?_;refine Υ ?_;refine Gp ?_;refine Cg (YD dp k.d f) λw hS=>?_;refine za (λh0=>?_) (λh0=>?_)
  ·rw[show lI k.d f=k.d.cut f 0 by unfold lI;rw[zzc h0]];refine Gp ?_;refine Cg (Zs dp k.d N hk.d (by omega) (by omega) f 0) λw hS=>?_;first|exact aR hS|exact⟨rfl,aR hS⟩
  rw[show lI k.d f=(k.d,0) by unfold lI;rw[zzb h0]];first|exact aR hS|exact⟨rfl,aR hS⟩
 clear hS;rintro v7 w ⟨bM,hS⟩;cases bM;obtain⟨gf,ll⟩:=Sb (f:=f) hk.d;refine⟨λus w=>us=[Γ (nB k.d f B).2]/\SL W (.ob (bm dp (nB k.d f B).1)::.pt sp (lA tp dp lp k.db k.image) 157::.ob (dd tp k.ts)::.ob (b7 lp dp k.g)::.mem H2::F) w,?_,?_⟩
 ·refine bj (λh0=>?_) (λh0=>?_)
  ·rw[show nB k.d f B=(lI k.d f).1.append f B by unfold nB;rw[zzc h0]];refine Gp ?_;refine Cg (Ha (.ob (bd bv 5 1 B.length (B.map bU))) dp (lI k.d f).1 N gf (by omega) f bv B (λh m=>jh h m) (by omega)) λw hS=>?_;first|exact aR hS|exact⟨rfl,aR hS⟩
  rw[show nB k.d f B=lI k.d f by unfold nB;rw[zzb h0]];first|exact aR hS|exact⟨rfl,aR hS⟩
 clear hS;rintro v7 w ⟨bM,hS⟩;cases bM;obtain⟨lM,tQ⟩:=Sa (f:=f) (b:=B) hk.d;rw[Sc];generalize nB k.d f B=a at *
 simp only;refine bj (λh0=>?_) (λh0=>?_)
 ·rw[zzc h0];refine Gp ?_;refine Cg (Yj dp a.1 (N+B.length) lM (by omega) f) λw hS=>?_;generalize a.1.sync f=c at *
  refine za (λhe=>?_) (λhe=>?_)
  ·rw[zzb he];exact⟨_,⟨rfl,H2,dW,rfl⟩,SL.bo (b8.dI (d:=c.1) hS Xp) Xi⟩
  rw[zzc (show c.2=0 by omega)];have hS:=b8.put k hS Xp;refine Cg (zN sp tp dp lp k hk.g hN) λw hS=>?_;have hS:=b8.iff.1 (SL.bo hS (t:=.ob (b8 sp tp dp lp k)::.ob (bm dp c.1)::.mem H2::F) Xi);refine Gn λw hS=>?_;exact⟨_,⟨rfl,H2,dW,rfl⟩,SL.bo (b8.dI (d:=c.1) (db:=f) (image:=bH k.g.bf) hS Xp) Xi⟩
 rw[zzb h0,zzb h0];refine Gp ?_;refine za (λhe=>?_) (λhe=>absurd (by omega) h0);exact⟨_,⟨rfl,H2,dW,rfl⟩,SL.bo (b8.dI (d:=a.1) hS Xp) Xi⟩
def Q8(sp tp dp lp:Nat)(k:bQ)(H:a_)(aw:Int){N:Nat}(hk:iP k N)(hN:N<=900000000)(cZ:k.d.ops+k.g.bf.length<=90000):
  SP 89 [bx sp,Γ aw] [.ob (b8 sp tp dp lp k),.ob (bm dp k.d),.mem H] (λv post=>v= Γ (k.gB aw).2/\∃H',H.le H'/\post=[.ob (b8 sp tp dp lp (k.gB aw).1),.ob (bm dp (k.gB aw).1.d),.mem H']):=by
 refine Enzz λW F w hS=>?_;apply bJy;delta aI bh ai;have e_:∀{w:Ζ} {e:Int},k.gB aw=(k,e)->SL W (.ob (b8 sp tp dp lp k)::.ob (bm dp k.d)::.mem H::F) w->∃post,((Γ e:Ε)= Γ (k.gB aw).2/\∃H',H.le H'/\post=[.ob (b8 sp tp dp lp (k.gB aw).1),.ob (bm dp (k.gB aw).1.d),.mem H'])/\SL W (app post F) w:=λhe hS=>by
  rw[he];exact⟨_,⟨rfl,H,a_.le_refl H,rfl⟩,hS⟩
 refine Gp ?_;refine za (λh=>e_ (by unfold bQ.gB;rw[zzc (.inl h)]) hS) (λh1=>?_);refine Cg (zN sp tp dp lp k hk.g (by omega)) λw hS=>?_;refine za (λh=>e_ (by unfold bQ.gB;rw[zzc (.inr h)]) (aR hS)) (λh2=>?_);have hS:=b8.iff.1 (SL.bo hS (t:=.ob (b8 sp tp dp lp k)::.ob (bm dp k.d)::.mem H::F) Xi);refine Gp ?_;refine Cg (zH dp k.d) λw hS=>?_;have hS:=b8.put k hS Xp;have cF:¬(aw<0\/bH k.g.bf<aw):=by omega
 cases ho:k.d.off with
 | true=>
  refine zu ?_;exact e_ (by unfold bQ.gB;rw[zzb cF,zzc ho]) (aR hS)
 | false=>
  refine zq ?_;have hT:k.gB aw=(let r:=if k.image<aw then k.ia else (k,0);if r.2≠0 then r else let t:=gl r.1.g r.1.d aw;({r.1 with g:=t.1.1,d:=t.1.2},t.2)):=by
   unfold bQ.gB;rw[zzb cF,zzb (by simp[ho])]
  rw[hT];clear hT e_;have hS:=b8.iff.1 (SL.bo hS (t:=.ob (b8 sp tp dp lp k)::.ob (bm dp k.d)::.mem H::F) Xi);refine bj (λh3=>?_) (λh3=>?_)
  ·rw[zzc h3];have hS:=b8.put k hS Xp;refine Cc (Q1 sp tp dp lp k H hk (by omega) (by omega)) ?_;clear hS;rintro v post ⟨rfl,H',hh,rfl⟩ w hS;try simp only[app]at hS
   have pP:k.ia.1.g=k.g:=by unfold bQ.ia;simp only;split<;>rfl
   have vh:k.ia.1.d.Ok (N+400000)/\k.ia.1.d.ops<=k.d.ops+3:=by
    have mT:=hk.iw;have o7:(bY (iC (bH k.g.bf) k.ts)).length<=400000:=by rw[jX];have:=AQ mT;omega
    obtain⟨a,b⟩:=Sd (f:=iN k) (b:=bY (iC (bH k.g.bf) k.ts)) hk.d;have:k.ia.1.d=(jq k.d (iN k) (bY (iC (bH k.g.bf) k.ts))).1:=by unfold bQ.ia;simp only;split<;>rfl
    rw[this];exact⟨a.mono (by omega),b⟩
   generalize k.ia=r at *
   obtain⟨k2,e⟩:=r;simp only at pP vh hS ⊢;refine bj (λhe=>?_) (λhe=>?_)
   ·rw[zzc he];exact⟨_,⟨rfl,H',hh,rfl⟩,aR hS⟩
   rw[zzb he];have hS:=b8.iff.1 hS;refine Gp ?_;refine Cg (Zq lp dp k2.g k2.d aw (by rw[pP];exact hk.g.ok) (by omega) vh.1 (by rw[pP];omega)) λw hS=>?_;exact⟨_,⟨rfl,H',hh,rfl⟩,SL.bo (b8.dI (d:=(gl k2.g k2.d aw).1.2) hS Xp) Xi⟩
  rw[zzb h3];simp only;rw[zzb (by simp)];refine Gp ?_;refine Cg (Zq lp dp k.g k.d aw hk.g.ok (by omega) hk.d (by omega)) λw hS=>?_;exact⟨_,⟨rfl,H,a_.le_refl H,rfl⟩,SL.bo (b8.dI (d:=(gl k.g k.d aw).1.2) hS Xp) Xi⟩
def bL(n:Int)(l:List bD)(k:Int):List (List Row):=if n<1\/8<n then [] else (List.range n.toNat).map λt:Nat=>wB t (l.take (bhy k l.length))
def bfx(l:List bD)(tb:Int)(i:Nat):(wB tb (l.take i)).length<=(l.flatMap (·.changes)).length:=by
 have h2:=bnl (l:=(l.take i).flatMap (·.changes)) [] tb;have e:(l.flatMap (·.changes)).length=((l.take i).flatMap (·.changes)).length+((l.drop i).flatMap (·.changes)).length:=by
  have:l=l.take i++l.drop i:=by simp
  conv=>lhs;rw[this]
  simp only[uup,zza]
 unfold wB;simp only[yyw]at h2;omega
def JT{base size:Int}(b0:0<=base)(b1:base<=12288)(s0:64<=size)(s1:size<=65536):dN fU base size=(fU,.ok ⟨[],base,size,none⟩):=
 JW (L:=[]) (f:=base) (n:=1) trivial rfl rfl b0 b1 s0 s1 (yyj _) (by simp;omega) (by decide) (by simp[bR])
def bnq{base size:Int}(b0:0<=base)(b1:base<=12288)(s0:64<=size)(s1:size<=65536):fJ ⟨[],base,size,none⟩ fU base 1 []:=
 ⟨trivial,rfl,rfl,λ_=>⟨rfl,rfl⟩,yyj _,b0,b1,s0,s1,by decide,by show base+((0:Nat):Int)+2<=base+4096;omega,rfl,rfl⟩
def bra{base size:Int}(b0:0<=base)(b1:base<=12288)(s0:64<=size)(s1:size<=65536):(⟨[],base,size,none⟩:bV).Ok 0:=⟨by simp,b0,b1,s0,s1,zzj _⟩
structure nh(n:Nat)(all:List bD):Prop where
 ok:sD n all
 len:all.length<=1000
 gI:(all.flatMap (·.changes)).length<=1000
def nh.nil(n:Nat):nh n []:=⟨⟨by simp,λi h=>by simp at h,by simp⟩,by decide,by decide⟩
def nh.take{n:Nat}{all:List bD}(h:nh n all)(j:Nat):nh n (all.take j):=by
 refine⟨⟨λt ht=>h.ok.may t (yyg ht),λi hi=>?_,λt ht=>h.ok.ch t (yyg ht)⟩,by rw[zzf];have:=h.len;omega,?_⟩
 ·rw[vva];exact h.ok.aw i _
 have e:(all.flatMap (·.changes)).length=((all.take j).flatMap (·.changes)).length+((all.drop j).flatMap (·.changes)).length:=by
  conv=>lhs;rw[<- yyf j all]
  grind
 have:=h.gI;omega
def nh.row{n:Nat}{all:List bD}(h:nh n all):∀C∈eO n all,C.length<=1000:=λC hC=>by
 unfold eO at hC;obtain⟨t,_,rfl⟩:=zz5.1 hC;have:=bfx all (t:Int) all.length;rw[zz0]at this
 have:=h.gI;omega
def nh.rows{n:Nat}{all:List bD}(h:nh n all):∀C∈eO n all,mJ C:=Kv h.ok.may h.ok.ch
def nh.xe{n:Nat}{all:List bD}(h:nh n all)(n1:1<=n)(n8:n<=8):xH n all:=λj hj=>by
 have ht:=h.take j;have hl:=h.len;refine sf.2 ⟨⟨by omega,by omega,by rw[po];exact n1,by rw[po];exact n8⟩,λC hC=>⟨(ht.rows C hC).sorted,(ht.rows C hC).rows,ht.row C hC⟩⟩
def iP.mono{k:bQ}{N M:Nat}(h:iP k N)(hm:N<=M):iP k M:=⟨h.g.mono hm,h.d.mono hm,h.rows,h.len,h.n1,h.n8⟩
def iP.add{k:bQ}{N:Nat}(h:iP k N){t:bD}(hm:c_ t=true):iP (k.fL t).1 (N+2000):=by
 unfold bQ.fL;split
 ·exact h.mono (by omega)
 split
 ·exact h.mono (by omega)
 rename_i ho hf;have vm:=sW h.g.ok.bf;have t_:=Vt hm (n:=bH k.g.bf+1) (by omega) (by omega);have hl:=Hj t_;have hb:(fC {t with aw:=bH k.g.bf+1}).length<=1200:=hl;have hg:=P3 (d:=k.d) h.g (fC {t with aw:=bH k.g.bf+1});have hd:=P4 (g:=k.g) h.d (fC {t with aw:=bH k.g.bf+1});generalize fC {t with aw:=bH k.g.bf+1}=p at *
 have pO:mh k.ts t.changes=true:=by
  grind
 simp only;split
 ·unfold mh at pO;rw[zzs,zz7,zz7]at pO
  refine⟨hg.mono (by omega),hd.mono (by omega),Hd (k:=8) h.rows (kr hm).2.2.2.2.2.1 pO.1,λC hC=>zzt (pO.2 C hC),?_,?_⟩
  ·show 1<=(eZ k.ts t.changes).length;rw[tw];exact h.n1
  show (eZ k.ts t.changes).length<=8;rw[tw];exact h.n8
 exact⟨hg.mono (by omega),hd.mono (by omega),h.rows,h.len,h.n1,h.n8⟩
def iP.draw{k:bQ}{N:Nat}(h:iP k N):iP k.ia.1 (N+400000):=by
 have mT:=h.iw;have o7:(bY (iC (bH k.g.bf) k.ts)).length<=400000:=by rw[jX];have:=AQ mT;omega
 obtain⟨hd,_⟩:=Sd (f:=iN k) (b:=bY (iC (bH k.g.bf) k.ts)) h.d;have hd:=hd.mono (M:=N+400000) (by omega);unfold bQ.ia;simp only;split
 ·exact⟨h.g.mono (by omega),hd,h.rows,h.len,h.n1,h.n8⟩
 exact⟨h.g.mono (by omega),hd,h.rows,h.len,h.n1,h.n8⟩
def iP.trim{k:bQ}{N:Nat}(h:iP k N)(aw:Int):iP (k.gB aw).1 (N+400000):=by
 unfold bQ.gB;split
 ·exact h.mono (by omega)
 split
 ·exact h.mono (by omega)
 have hr:iP (if k.image<aw then k.ia else (k,0)).1 (N+400000):=by
  split
  ·exact h.draw
  exact h.mono (by omega)
 generalize (if k.image<aw then k.ia else (k,0))=r at *
 simp only;split
 ·exact hr
 exact⟨bBk hr.g aw,bBm hr.d aw,hr.rows,hr.len,hr.n1,hr.n8⟩
def vy(n:Nat)(size:Int):bQ:=⟨⟨[],16,size,none⟩,fU,List.replicate n [],-1,0⟩
def bzm{n:Nat}(n1:1<=n)(n8:n<=8){size:Int}(s0:64<=size)(s1:size<=65536):kx fU n size=(fU,.ok (vy n size))/\ik n (vy n size) [] 0 [] fU 16 0 0:=by
 have lr:lC n [] [] (-1) 0:=⟨.nil,by simp,by simp,λ_=>rfl,.inl rfl,zzj _,λh=>absurd rfl h,by simp⟩;have hw:cN 16 4112 [] [] fU.R:=⟨by simp,by simp[fU],by simp⟩;have:=V_ n1 n8 (nh.nil n).ok ((nh.nil n).xe n1 n8) (I:=[]) (tr:=0) (JT (base:=16) (by decide) (by decide) s0 s1) hw (bnq (by decide) (by decide) s0 s1) rfl lr (zzj _) (zzj _) (by decide);rw[Ku]at this
 exact this
def bzl{n:Nat}(n1:1<=n)(n8:n<=8){size:Int}(s0:64<=size)(s1:size<=65536):iP (vy n size) 0:=
 ⟨⟨bra (by decide) (by decide) s0 s1,trivial,show (0:Int)<=1099511627776 by decide,λx hx=>by cases hx⟩,Ds 0,λC hC=>by rw[(vv6.1 hC).2];exact WE,λC hC=>by rw[(vv6.1 hC).2];exact zz6 _,by show 1<=(List.replicate n []).length;rw[xxm];exact n1,by show (List.replicate n []).length<=8;rw[xxm];exact n8⟩
def ik.read{n:Nat}{k:bQ}{all:List bD}{tr:Nat}{I:List PF}{d0:DS}{f:Int}{lo m:Nat}(h:ik n k all tr I d0 f lo m)(ho:∀t∈all,c_ t=true){j:Nat}(h1:lo<=j)(h2:j<all.length):k.gA ((j:Int)+1)= .ok all[j]:=by
 unfold bQ.gA;rw[h.log.chain.read,zzc (by omega),h.log.fG];have e:(((j:Int)+1-((lo:Int)+1)).toNat)=j-lo:=by omega
 have e2:((all.drop lo).map fC)[j-lo]?=some (fC all[j]):=by
  grind
 grind [Rl]
def ik.bf{n:Nat}{k:bQ}{all:List bD}{tr:Nat}{I:List PF}{d0:DS}{f:Int}{lo m:Nat}(h:ik n k all tr I d0 f lo m):k.g.bf.length<=all.length+1:=by
 have:=h.log.chain.sa;rw[h.log.fG,zzv,zzq]at this
 omega
def V'{d d':DS}{n size:Int}{k:bQ}(h:kx d n size=(d',.ok k)):dN d 16 size=(d',.ok k.g):=by
 unfold kx at h;split at h
 ·cases h
 split at h
 ·cases h
 rename_i g hg;simp only at h;split at h
 ·cases h
 split at h
 ·cases h;exact hg
 cases h
structure cL where
 n:Int
 state:Int
 mark:Int
 after:Int
 id:Int
 table:Int
 rows:List Row
 cG:Int
 last:Bool
abbrev l6(n:Int):cL:=⟨n,0,0,0,0,0,[],0,false⟩
def cL.xw(w:cL)(mark id table after:Int):Prop:=w.state≠0\/mark<1\/1099511627776<mark\/id<1\/64<id\/table<0\/8<=table\/after<0\/1099511627776<after
instance (w:cL) (mark id table after:Int):Decidable (w.xw mark id table after):=by unfold cL.xw;infer_instance
def cL.ta(w:cL)(mark id table after:Int):cL:=if w.xw mark id table after then w else ⟨w.n,1,mark,after,id,table,[],0,false⟩
def nc:Int->List Row->Bool
 | _,[]=>true
 | k,r::C=>decide (k<r.key/\r.key<=1099511627776) && nc r.key C
def ky(after:Int)(C:List Row):Int:=(C.getLast?.map (·.key)).getD after
def cL.wz(w:cL)(C:List Row):Prop:=w.state≠1\/w.n<C.length\/nc w.after C=false
instance (w:cL) (C:List Row):Decidable (w.wz C):=by unfold cL.wz;infer_instance
def cL.fill(w:cL)(C:List Row):cL:=if w.wz C then w else {w with state:=2,rows:=C,cG:=ky w.after C,last:=decide ((C.length:Int)<w.n)}
def cL.shut(w:cL):cL:=if w.state=2 then {w with state:=3} else w
def cL.waits(w:cL)(kind mark:Int):Bool:=decide (kind=2/\mark=w.mark/\(w.state=1\/w.state=2))
def cL.low(w:cL)(mark:Int):cL:=if w.state=3/\mark=w.mark then {w with state:=4} else w
def kh(t:Int)(l:List da)(r:Row):Bool:=l.any λc=>decide (c.table=t/\c.key=r.key)
def cL.p_(w:cL)(l:List da):cL:=if w.state=4 then {w with rows:=w.rows.filter λr=>!kh w.table l r} else w
def cL.tW(w:cL)(mark aw:Int):Prop:=w.state≠4\/mark≠w.mark\/aw<1\/1099511627776<aw
instance (w:cL) (mark aw:Int):Decidable (w.tW mark aw):=by unfold cL.tW;infer_instance
def jv(w:cL)(aw:Int):List fB:=w.rows.map λr=>⟨aw,w.table,r.key,false,r.val⟩
def vE(w:cL):gF:=⟨2,w.id,0,0,0,w.cG,w.last⟩
def cL.high(w:cL)(mark aw:Int):cL × Option bB:=if w.tW mark aw then (w,none) else (l6 w.n,some ⟨aw,jv w aw,[vE w]⟩)
structure cH where
 l:List (Int × Int)
 at_:Int
 left:Int
abbrev wk:cH:=⟨[],-1,0⟩
def AP(d:cH)(id:Int):Option Nat:=d.l.findIdx? λm=>decide (m.1=id)
def cH.add(d:cH)(id weight:Int):cH:=
 if id<1\/64<id\/weight<1\/8<weight then d else match AP d id with
 | some _=>d
 | none=>{d with l:=d.l++[(id,weight)]}
def cH.del(d:cH)(id:Int):cH:=match AP d id with
 | none=>d
 | some i=>⟨d.l.eraseIdx i,if (i:Int)<=d.at_ then d.at_-1 else d.at_,if (i:Int)=d.at_ then 0 else d.left⟩
def cH.place(d:cH):Int:=if d.left=0 then (if (d.l.length:Int)<=d.at_+1 then 0 else d.at_+1) else d.at_
def cH.ly(d:cH):Int × Int:=(d.l[d.place.toNat]?).getD (0,0)
def cH.next(d:cH):cH × Int:=if d.l=[] then (d,0) else (⟨d.l,d.place,(if d.left=0 then d.ly.2 else d.left)-1⟩,d.ly.1)
structure cH.Ok(d:cH):Prop where
 lF : -1<=d.at_
 oQ:d.at_<d.l.length
 Fy:0<=d.left
 Fz:d.left<=8
 neg:d.at_ = -1->d.left=0
 w:∀m∈d.l,1<=m.1/\m.1<=64/\1<=m.2/\m.2<=8
 nd:(d.l.map Prod.fst).Nodup
def uG:Φ:=[115,110,97,112,115,104,111,116,32]
def vH:Φ->Option (Int × Int)
 | [d]=>if 48<=d.toNat/\d.toNat<=55 then some ((d.toNat:Int)-48,1) else none
 | [d,s,e]=>if (48<=d.toNat/\d.toNat<=55)/\s.toNat=32/\49<=e.toNat/\e.toNat<=56 then some ((d.toNat:Int)-48,(e.toNat:Int)-48) else none
 | _=>none
def FQ(s:Η):Option (Int × Int):=if s.data.toList.take 9=uG then vH (s.data.toList.drop 9) else none
structure cI where
 tables:Int
 late:Int
 at_:Int
 reqs:List Rq
 bz:cL
def De(tables late chunk aw:Int)(L:List Rq):Prop:=tables<1\/8<tables\/late<0\/2 ^ tables.toNat<=late\/aw<0\/1099511627776<aw\/chunk<1\/64<chunk\/¬fq L\/∃r∈L,tables<=r.table\/aw<r.at_
def cI.captured(m:cI)(t:Int):Bool:=decide (0<=t/\t<m.tables) && (decide (Rc m.late t=0) || m.reqs.any λr=>decide (r.table=t))
def cI.accept(m:cI)(s:Η)(aw:Int):List Rq × List gF:=match FQ s with
 | none=>(m.reqs,[])
 | some g=>if m.tables<=g.1 then (m.reqs,[]) else match oO m.reqs g.1 g.2 aw with
  | none=>(m.reqs,[])
  | some L=>(L,[⟨1,L.length,g.1,g.2,aw,0,false⟩])
def cI.eg(m:cI)(aw:Int):Ψ->cI × List gF
 | []=>(m,[])
 | s::l=>let r:=m.accept s aw;let x:=cI.eg {m with reqs:=r.1} aw l;(x.1,r.2++x.2)
def lV(m:cI)(aw:Int)(l:List da):List fB:=(l.filter λc=>m.captured c.table).map λc=>⟨aw,c.table,c.key,c.gone,c.val⟩
def cI.xY(m:cI)(t:bD):cI × bB:=
 let x:=m.eg t.aw t.signals
 ({x.1 with bz:=x.1.bz.p_ t.changes},⟨t.aw,lV x.1 t.aw t.changes,x.2⟩)
def cI.high(m:cI)(t:bD):cI × bB:=match m.bz.high t.mark t.aw with
 | (_,none)=>(m,⟨t.aw,[],[]⟩)
 | (w,some x)=>match lG m.reqs m.bz.id m.bz.cG m.bz.last with
  | none=>({m with bz:=w},{x with notes:=[]})
  | some L=>({m with bz:=w,reqs:=L},x)
def cI.take(m:cI)(t:bD):cI × (bB × Int):=
 if c_ t=false then (m,(⟨0,[],[]⟩,1))
 else if t.aw≠m.at_+1\/m.bz.waits t.kind t.mark=true then (m,(⟨0,[],[]⟩,10))
 else if t.kind=1 then let r:=({m with at_:=t.aw}:cI).xY t;(r.1,(r.2,0))
 else if t.kind=3 then let r:=({m with at_:=t.aw}:cI).high t;(r.1,(r.2,0))
 else ({m with at_:=t.aw,bz:=m.bz.low t.mark},(⟨t.aw,[],[]⟩,0))
def je(L:List Rq):List Rq:=L.filter λr=>!r.done
structure eD where
 k:bQ
 m:cI
 d:cH
 n:Int
def Dm(m:cI):Bool:=decide (m.bz.state=1\/m.bz.state=2\/(m.bz.state=0/\je m.reqs≠[]))
def lz(d:cH)(L:List Rq):cH:=(je L).foldl (λd r=>d.add r.id r.weight) ((L.filter (·.done)).foldl (λd r=>d.del r.id) d)
def uz(L:List Rq)(id:Int):Option Rq:=if id<1 then none else L[(id-1).toNat]?
def eD.C'(p:eD)(r:Rq):eD × (Int × Int):=
 if (p.k.mv 2 (bH p.k.g.bf+1)).2.2≠0 then ({p with k:=(p.k.mv 2 (bH p.k.g.bf+1)).1},(0,(p.k.mv 2 (bH p.k.g.bf+1)).2.2))
 else ({p with k:=(p.k.mv 2 (bH p.k.g.bf+1)).1,m:={p.m with bz:=p.m.bz.ta (bH p.k.g.bf+1) r.id r.table r.cG}},(3,0))
def eD.vz(p:eD)(x:cH × Int):eD × (Int × Int):=match uz p.m.reqs x.2 with
 | none=>({p with d:=x.1},(0,0))
 | some r=>({p with d:=x.1}:eD).C' r
def eD.C9(p:eD):eD × (Int × Int):=p.vz (lz p.d p.m.reqs).next
def eD.Cy(p:eD):eD × (Int × Int):=
 let y:=p.k.mv 3 p.m.bz.mark
 if y.2.2≠0 then ({p with k:=y.1},(0,y.2.2)) else ({p with k:=y.1,m:={p.m with bz:=p.m.bz.shut}},(5,0))
def eD.step(p:eD):eD × (Int × Int):=
 if Dm p.m=false then (p,(0,0))
 else if p.m.bz.state=0 then p.C9
 else if p.m.bz.state=1 then ({p with m:={p.m with bz:=p.m.bz.fill (p.k.wg p.m.bz.table p.m.bz.after p.n)}},(4,0))
 else p.Cy
section
variable {lo hi:Int} {A B:List PF} {d:DS}
def mE.mono{ko wK:Int}{g:bV}(h:mE lo hi g)(h1:ko<=lo)(h2:hi<=wK):mE ko wK g:=⟨by have:=h.b0;omega,by have:=h.b1;omega,h.bf,h.cC⟩
def Laid.S1{g:bV}{d:DS}{f n:Int}{es:List Φ}(h:Laid g d f n es):mE g.base (g.base+4096) g:=by
 have hle:=h.chain.sa;rw[h.fG]at hle
 have tT:=h.fi;have hba:=h.base;refine⟨yyj _,yyj _,λs hs=>?_,λx hx=>by rw[h.cC]at hx;cases hx⟩;have:=h.chain.sG.mem (x:=dy s) (vvx hs)
 grind [dy]
def bA6{g:bV}(hg:mE lo hi g)(h:cN lo hi A B d.R)(p:Φ)(k:Int):fA g (b_ A B d) p k=(((fA g d p k).1.1,b_ A B (fA g d p k).1.2),(fA g d p k).2)/\cN lo hi A B (fA g d p k).1.2.R/\mE lo hi (fA g d p k).1.1:=by
 unfold fA;split
 ·grind
 rw[show (b_ A B d).off=d.off from rfl];cases hp:dE g d.off p with
 | error e=>exact⟨rfl,h,hg⟩
 | ok x=>
  have hx:=Wi hg hp;have h1:=hg.b0;have h2:=hg.b1;obtain⟨em,hm,vk⟩:=VE hg h;simp only;rw[em];simp only;split
  ·grind
  obtain⟨ea,ha⟩:=Fs hm (f:=x.file) (by omega) (by omega) (x.b.take (k.toNat % x.b.length));rw[ea];simp only;split
  ·grind
  have vg:(cw g d).1.1.base=g.base:=(s9 g d).2.1;refine⟨rfl,ha,vk.b0,vk.b1,vk.bf,λy hy=>?_⟩
  grind
end
def bO.eh(A:List PF)(k:bO):bO:={k with d:=b_ A [] k.d}
structure rn(A:List PF)(k:bO):Prop where
 w:cN 8192 12288 A [] k.d.R
 g:mE 8192 12288 k.g
def X7{A:List PF}{k:bO}(h:rn A k)(x:bB)(L:List Rq):(k.eh A).ga x L=((k.ga x L).1.eh A,(k.ga x L).2)/\rn A (k.ga x L).1:=by
 obtain⟨e,h1,h2⟩:=Hc h.g h.w (fr x);unfold bO.ga bO.eh;simp only[e];split
 ·exact⟨rfl,h1,h2⟩
 exact⟨rfl,h1,h2⟩
theorem bA8{A:List PF}{k:bO}(h:rn A k)(x:bB)(n:Int):(k.eh A).jI x n=((k.jI x n).1.eh A,(k.jI x n).2)/\rn A (k.jI x n).1:=by
 obtain⟨e,h1,h2⟩:=bA6 h.g h.w (fr x) n;have e1:(k.eh A).jI x n=(λr:(bV × DS) × Int=>(({k with g:=r.1.1,d:=r.1.2}:bO),r.2)) (fA k.g (b_ A [] k.d) (fr x) n):=rfl;rw[e1,e];exact⟨rfl,⟨h1,h2⟩⟩
def a_d{A:List PF}{k:bO}(h:rn A k)(x:bB):(k.eh A).eX x=((k.eX x).1.eh A,(k.eX x).2)/\rn A (k.eX x).1:=by
 unfold bO.eX;show (if du x=false\/(k.aw<x.aw/\fj k.ts.length k.reqs x=none) then (k.eh A,(1:Int)) else if k.d.off=true then (k.eh A,8) else _)=_/\_;split
 ·exact⟨rfl,h⟩
 split
 ·exact⟨rfl,h⟩
 show (match k.plan with
  | []=>if k.aw<x.aw then (k.eh A).ga x _ else (k.eh A,(0:Int))
  | f::r=>_)=_/\_
 simp only;cases hp:k.plan with
 | nil=>
  simp only;split
  ·exact X7 h x _
  exact⟨rfl,h⟩
 | cons f r=>
  simp only;have h':rn A {k with plan:=r}:=⟨h.w,h.g⟩;obtain⟨w1,w2⟩:=X7 h' x ((fj k.ts.length k.reqs x).getD [])
  grind [bA8,bO.eh]
def brq{A:List PF}{d:DS}(h:cN 8192 12288 A [] d.R)(bL size:Int):jH (b_ A [] d) bL size=(b_ A [] (jH d bL size).1,(jH d bL size).2.map (bO.eh A)):=by
 unfold jH;split
 ·rfl
 obtain⟨e,_⟩:=AZ (base:=8192) (size:=size) h;rw[e];cases dN d 8192 size with
 | mk d' r=>
  cases r with
  | error e=>rfl
  | ok g=>
   simp only;split
   ·rfl
   split
   ·rfl
   rfl
def bQ.eh(B:List PF)(k:bQ):bQ:={k with d:=b_ [] B k.d}
structure tm(B:List PF)(k:bQ):Prop where
 w:cN 0 8192 [] B k.d.R
 g:mE 0 8192 k.g
def aF6{B:List PF}{k:bQ}(h:tm B k)(t:bD):(k.eh B).fL t=((k.fL t).1.eh B,(k.fL t).2)/\tm B (k.fL t).1:=by
 obtain⟨e,h1,h2⟩:=Hc h.g h.w (fC {t with aw:=bH k.g.bf+1});unfold bQ.fL bQ.eh;simp only;rw[show (b_ [] B k.d).off=k.d.off from rfl];split
 ·exact⟨rfl,h⟩
 split
 ·exact⟨rfl,h⟩
 simp only[e];split
 ·exact⟨rfl,h1,h2⟩
 exact⟨rfl,h1,h2⟩
def bcs{lo hi:Int}{A B:List PF}{d:DS}(h:cN lo hi A B d.R){f:Int}(h1:lo<=f)(h2:f<hi)(b:Φ):cN lo hi A B (jq d f b).1.R:=by
 unfold jq;have hc:cN lo hi A B (if 0<=gi d.R f then d.cut f 0 else (d,0)).1.R:=by
  split
  ·exact (Fu h h1 h2 0).2
  exact h
 generalize (if 0<=gi d.R f then d.cut f 0 else (d,0))=c at *
 simp only;split
 ·exact hc
 have ha:=(Fs hc h1 h2 b).2;split
 ·exact ha
 exact (Jj ha h1 h2).2
theorem bcv{B:List PF}{k:bQ}(h:tm B k):(k.eh B).ia=(k.ia.1.eh B,k.ia.2)/\tm B k.ia.1:=by
 have ho:0<=iN k/\iN k<8192:=by unfold iN;split<;>omega
 have e:=Se h.w ho.1 ho.2 (bY (iC (bH k.g.bf) k.ts));have hr:=bcs h.w ho.1 ho.2 (bY (iC (bH k.g.bf) k.ts));unfold bQ.ia;rw[show iN (k.eh B)=iN k from rfl,show (k.eh B).g=k.g from rfl,show (k.eh B).ts=k.ts from rfl,show (k.eh B).d=b_ [] B k.d from rfl];simp only[e];split
 ·exact⟨rfl,hr,h.g⟩
 exact⟨rfl,hr,h.g⟩
def bBo{B:List PF}{k:bQ}(h:tm B k)(aw:Int):(k.eh B).gB aw=((k.gB aw).1.eh B,(k.gB aw).2)/\tm B (k.gB aw).1:=by
 unfold bQ.gB;rw[show (k.eh B).g=k.g from rfl,show (k.eh B).d.off=k.d.off from rfl,show (k.eh B).image=k.image from rfl];split
 ·exact⟨rfl,h⟩
 split
 ·exact⟨rfl,h⟩
 have hr:∃r:bQ × Int,(if k.image<aw then k.ia else (k,0))=r/\(if k.image<aw then (k.eh B).ia else (k.eh B,0))=(r.1.eh B,r.2)/\tm B r.1:=by
  grind [bcv]
 obtain⟨r,e1,e2,h1⟩:=hr;rw[e1,e2];simp only;split
 ·grind
 obtain⟨e,h2,h3⟩:=XC h1.g h1.w aw;rw[show (r.1.eh B).g=r.1.g from rfl,show (r.1.eh B).d=b_ [] B r.1.d from rfl,e];exact⟨rfl,h2,h3⟩
def bmi{lo hi:Int}{A B M:List PF}(h:cN lo hi A B M){n:Nat}{f:Int}(h1:lo<=f)(h2:f<hi):ib (A++M++B) n f=ib M n f:=by
 unfold ib;rw[h.get h1 h2]
def brs{I B:List PF}{d0:DS}(h:cN 16 4112 I [] d0.R)(hI:∀x∈I,0<=x.id)(hB:∀x∈B,8192<=x.id)(bL size:Int):
  kx (b_ I B d0) bL size=(b_ [] B (kx (b_ I [] d0) bL size).1,(kx (b_ I [] d0) bL size).2.map (bQ.eh B)):=by
 have hj:∀d:DS,b_ I B d=b_ [] B (b_ I [] d):=λd=>by unfold b_;simp
 unfold kx;split
 ·rw[hj];rfl
 have h':cN 16 (16+4096) I B d0.R:=⟨h.a,h.m,λx hx=>by have:=hB x hx;omega⟩;obtain⟨e1,w1⟩:=AZ (base:=16) (size:=size) h';obtain⟨e2,w2⟩:=AZ (base:=16) (size:=size) (B:=[]) (A:=I) (d:=d0) h;rw[e1,e2];cases hg:dN d0 16 size with
 | mk d' r=>
  rw[hg]at w1 w2
  cases r with
  | error e=>simp only;rw[hj];rfl
  | ok g=>
   have hw:cN 0 8192 [] B (I++d'.R):=⟨λx hx=>by (cases hx),λx hx=>by
    rcases zz4.1 hx with hx|hx
    ·have:=hI x hx;have:=h.a x hx;omega
    have:=w2.m x hx;omega,hB⟩
   have hl:kq (b_ I B d').R bL.toNat=kq (b_ I [] d').R bL.toNat:=by
    have hg:∀f:Int,0<=f->f<8192->ib (I++d'.R++B) bL.toNat f=ib (I++d'.R++[]) bL.toNat f:=λf h0 h1=>by
     have:=bmi hw (n:=bL.toNat) h0 h1
     grind
    show kq (I++d'.R++B) bL.toNat=kq (I++d'.R++[]) bL.toNat
    grind [kq,gL]
   simp only;rw[hl];cases nP bL.toNat (kq (b_ I [] d').R bL.toNat).2.1 (bR g.bf) (dH g.bf) (kq (b_ I [] d').R bL.toNat).2.2 with
   | none=>simp only;rw[hj];rfl
   | some ts=>
    simp only;split
    ·rw[hj];rfl
    rw[hj];rfl
structure lD(n:Nat)(all:List bD):Prop where
 ok:sD n all
 len:all.length<=1000
 row:∀j,∀C∈eO n (all.take j),C.length<=1000
def lD.nil(n:Nat):lD n []:=⟨(nh.nil n).ok,by decide,λj=>by rw[List.take_nil];exact (nh.nil n).row⟩
def sD.take{n:Nat}{all:List bD}(h:sD n all)(j:Nat):sD n (all.take j):=
 ⟨λt ht=>h.may t (yyg ht),λi hi=>by rw[vva];exact h.aw i _,λt ht=>h.ch t (yyg ht)⟩
def lD.take{n:Nat}{all:List bD}(h:lD n all)(j:Nat):lD n (all.take j):=
 ⟨h.ok.take j,by rw[zzf];have:=h.len;omega,λi=>by rw[uut];exact h.row _⟩
def lD.xe{n:Nat}{all:List bD}(h:lD n all)(n1:1<=n)(n8:n<=8):xH n all:=λj hj=>by
 have ht:=h.take j;have hr:=Kv ht.ok.may ht.ok.ch;have hl:=h.len;exact sf.2 ⟨⟨by omega,by omega,by rw[po];exact n1,by rw[po];exact n8⟩,λC hC=>⟨(hr C hC).sorted,(hr C hC).rows,h.row j C hC⟩⟩
def lD.mA{n:Nat}{all:List bD}(h:lD n all):(∀C∈eO n all,mJ C)/\∀C∈eO n all,C.length<=1000:=
 ⟨Kv h.ok.may h.ok.ch,λC hC=>h.row all.length C (by rw[zz0];exact hC)⟩
def lD.app{n:Nat}{all:List bD}(h:lD n all){t:bD}(hm:c_ t=true)(hl:t.aw=(all.length:Int)+1)(hc:∀c∈t.changes,gu n c=true)(h1:all.length+1<=1000)(hf:mh (eO n all) t.changes=true):lD n (all++[t]):=by
 refine⟨⟨λx hx=>?_,λi hi=>?_,λx hx=>?_⟩,by rw[zza];exact h1,λj C hC=>?_⟩
 ·rcases zz4.1 hx with hx|hx
  ·exact h.ok.may x hx
  grind
 ·rw[List.getElem_append];split
  ·exact h.ok.aw i _
  grind
 ·rcases zz4.1 hx with hx|hx
  ·exact h.ok.ch x hx
  grind
 rcases xxz all.length j with hj|hj
 ·rw[zzz (by rw[zza,yyb];omega),<- Gi hc]at hC
  grind [mh]
 rw[yy4 hj]at hC
 exact h.row j C hC
abbrev nV(t:bD)(n:Nat):bD:=⟨(n:Int)+1,t.kind,t.changes,t.signals,t.mark⟩
def boq{t:bD}(h:c_ t=true){n:Nat}(hn:n<=1000):c_ (nV t n)=true:=by
 obtain⟨_,h2⟩:=ur.1 h;exact ur.2 ⟨⟨by show 1<=(n:Int)+1;omega,by show (n:Int)+1<=_;omega⟩,h2⟩
def ik.add{n:Nat}{k:bQ}{all:List bD}{tr:Nat}{I:List PF}{d0:DS}{f:Int}{lo m:Nat}(h:ik n k all tr I d0 f lo m)(ho:k.d.off=false)(ha:0<=k.d.arm)(hlen:all.length<=1000){t:bD}
  (hm:c_ (nV t all.length)=true) (hc:∀c∈t.changes,gu n c=true) (hf:mh (eO n all) t.changes=true) :
  (∃k' d1,k.fL t=(k',((all.length:Int)+1,0))/\ik n k' (all++[nV t all.length]) tr I d1 f lo m/\k'.d.off=false/\0<=k'.d.arm/\(k.d.arm=0->k'.d.arm=0)/\k'.d.ops<=k.d.ops+2) \/
  (∃k' d1,k.fL t=(k',(0,8))/\k'.d.off=true/\k.d.arm≠0/\k'.d.ops<=k.d.ops+2/\k'.ts=k.ts/\sC n k'.d all (some (nV t all.length)) tr I I d1 k.g f lo m k.db):=by
 have nH:=h.head ho;have hd:=h.pE;have jF:d0.off=false:=by rw[hd]at ho;exact ho
 have rO:0<=d0.arm:=by rw[hd]at ha;exact ha
 have hl:=h.log.inv jF;have Aw:=h.uo;have mU:=h.jS.le;have Ct:=h.file;have hb:=h.base;have gy:=h.ts;have o7:=bdi hm;have sU:=P5 hl (p:=fC (nV t all.length)) (by omega) (by rw[zzv,zzq];omega) (by rw[zzv,zzq,hb];omega) rO;obtain⟨ew,hw,_⟩:=Hc (A:=I) (B:=[]) (d:=d0) (h.log.H6 hb) h.bz (fC (nV t all.length));have ka:k.fL t=(let r:=d_ k.g k.d (fC (nV t all.length));if r.2.2=0 then ({k with g:=r.1.1,d:=r.1.2,ts:=eZ k.ts t.changes},((all.length:Int)+1,0)) else ({k with g:=r.1.1,d:=r.1.2},(0,r.2.2))):=by
  grind [bQ.fL]
 rw[ka,hd,ew];have vj:(all.drop lo).map fC++[fC (nV t all.length)]=((all++[nV t all.length]).drop lo).map fC:=by
  grind
 rcases sU with ⟨g',d',e,hv,cZ,rN,sS,vg,Um,lO,_,_⟩|⟨d',e,hT,IP,cZ,sS,vm⟩
 ·left;rw[e]at hw ⊢
  simp only at hw ⊢;rw[zzc trivial];rw[vj]at hv
  refine⟨_,d',rfl,⟨rfl,hw,hv.laid,vg.trans hb,h.jS.mono _,h.image,Aw,h.se,?_,Ct⟩,hv.off,rN,sS,by show d'.ops<=d0.ops+2;omega⟩;show eZ k.ts t.changes=_;rw[gy,Gi (t:=nV t all.length) hc]
 right;rw[e]at hw ⊢
 simp only at hw ⊢;rw[zzb (by decide)];refine⟨_,d',rfl,IP,sS,by show d'.ops<=d0.ops+2;omega,rfl,rfl,hw,.inr ⟨_,true,hT,λ_=>⟨_,rfl,rfl⟩⟩,hb,by have:=h.log.base;omega,Ct,λee=>?_,h.jS,.inl rfl,Aw,h.se⟩;rcases fJ.x_ h.log ee with h1|⟨h1,_⟩
 ·grind
 grind
def ik.Dw{n:Nat}{k:bQ}{all:List bD}{tr:Nat}{I:List PF}{d0:DS}{f:Int}{lo m:Nat}(h:ik n k all tr I d0 f lo m){B:List PF}(hB:∀x∈B,8192<=x.id):tm B k:=by
 refine⟨⟨λx hx=>(by cases hx),λx hx=>?_,hB⟩,(h.log.H6 h.base).mono (by decide) (by decide)⟩;rw[h.pE]at hx
 have hx:x∈I++d0.R++[]:=hx;rw[zz3]at hx
 rcases zz4.1 hx with hx|hx
 ·rcases h.jS.ids x hx with e|e<;>omega
 have:=h.bz.m x hx;omega
structure KV(n tr N:Nat)(AL:List bD)(k:bQ):Prop where
 lg:lD n AL
 live:∃I d0 f lo m,ik n k AL tr I d0 f lo m
 off:k.d.off=false
 arm:0<=k.d.arm
 ok:iP k N
structure KD(n tr N:Nat)(AL:List bD)(t:Option bD)(d:DS):Prop where
 lg:lD n (AL++t.toList)
 dead:∃I I' d0 g f lo m nw,sC n d AL t tr I I' d0 g f lo m nw
 ok:d.Ok N
def KV.mono{n tr N M:Nat}{AL:List bD}{k:bQ}(h:KV n tr N AL k)(hM:N<=M):KV n tr M AL k:=⟨h.lg,h.live,h.off,h.arm,h.ok.mono hM⟩
def KD.mono{n tr N M:Nat}{AL:List bD}{t:Option bD}{d:DS}(h:KD n tr N AL t d)(hM:N<=M):KD n tr M AL t d:=⟨h.lg,h.dead,h.ok.mono hM⟩
def KV.dead{n tr N:Nat}{AL:List bD}{k:bQ}(h:KV n tr N AL k):KD n tr N AL none k.d:=by
 obtain⟨I,d0,f,lo,m,hL⟩:=h.live;exact⟨by rw[show AL++(none:Option bD).toList=AL from zz3 AL];exact h.lg,⟨I,I,d0,k.g,f,lo,m,k.db,hL.dead hL.x_ none⟩,h.ok.d⟩
def KV.Dw{n tr N:Nat}{AL:List bD}{k:bQ}(h:KV n tr N AL k){B:List PF}(hB:∀x∈B,8192<=x.id):tm B k:=by
 obtain⟨I,d0,f,lo,m,hL⟩:=h.live;exact hL.Dw hB
def KV.head{n tr N:Nat}{AL:List bD}{k:bQ}(h:KV n tr N AL k):bH k.g.bf=AL.length:=by
 obtain⟨I,d0,f,lo,m,hL⟩:=h.live;exact hL.head h.off
def KV.ts{n tr N:Nat}{AL:List bD}{k:bQ}(h:KV n tr N AL k):k.ts=eO n AL:=by
 obtain⟨I,d0,f,lo,m,hL⟩:=h.live;exact hL.ts
def KV.read{n tr N:Nat}{AL:List bD}{k:bQ}(h:KV n tr N AL k){j:Nat}(h1:tr<=j)(h2:j<AL.length):k.gA ((j:Int)+1)= .ok AL[j]:=by
 obtain⟨I,d0,f,lo,m,hL⟩:=h.live;have:=hL.se;exact hL.read h.lg.ok.may (by omega) h2
def KV.add{n tr N:Nat}{AL:List bD}{k:bQ}(h:KV n tr N AL k)(hl:AL.length+1<=1000){t:bD}(hm:c_ t=true)(hc:∀c∈t.changes,gu n c=true):
  (∃k',k.fL t=(k',((AL.length:Int)+1,0))/\KV n tr (N+2000) (AL++[nV t AL.length]) k'/\(k.d.arm=0->k'.d.arm=0)/\k'.d.ops<=k.d.ops+2) \/
  (∃k',k.fL t=(k',(0,8))/\k'.d.off=true/\KD n tr (N+2000) AL (some (nV t AL.length)) k'.d/\k.d.arm≠0/\k'.d.ops<=k.d.ops+2) \/
  (k.fL t=(k,(0,7))/\mh (eO n AL) t.changes=false):=by
 obtain⟨I,d0,f,lo,m,hL⟩:=h.live;have dK:=boq hm (n:=AL.length) (by omega);cases hf:mh (eO n AL) t.changes with
 | false=>
  refine .inr (.inr ⟨?_,rfl⟩);unfold bQ.fL;rw[zzb (by rw[h.off];decide),zzc (.inl (by rw[hL.ts];exact hf))]
 | true=>
  have hT:=h.lg.app dK rfl hc hl hf;have bC:=h.ok.add hm;rcases hL.add h.off h.arm (by omega) dK hc hf with ⟨k',d1,e,l1,o1,a1,a0,p1⟩|⟨k',d1,e,o1,a0,p1,t1,hD⟩
  ·rw[e]at bC
   exact .inl ⟨k',e,⟨hT,⟨I,d1,f,lo,m,l1⟩,o1,a1,bC⟩,a0,p1⟩
  rw[e]at bC
  exact .inr (.inl ⟨k',e,o1,⟨hT,⟨I,I,d1,k.g,f,lo,m,k.db,hD⟩,bC.d⟩,a0,p1⟩)
def KV.trim{n tr N:Nat}{AL:List bD}{k:bQ}(h:KV n tr N AL k)(n1:1<=n)(n8:n<=8){aw:Nat}(hl:aw<=AL.length):
  (∃k',k.gB aw=(k',0)/\KV n (max tr aw) (N+400000) AL k'/\(k.d.arm=0->k'.d.arm=0)/\k'.d.ops<=k.d.ops+(AL.length+5)) \/
  (∃k' e,k.gB aw=(k',e)/\e≠0/\k'.d.off=true/\KD n (max tr aw) (N+400000) AL none k'.d/\k.d.arm≠0/\k'.d.ops<=k.d.ops+(AL.length+5)):=by
 obtain⟨I,d0,f,lo,m,hL⟩:=h.live;have bC:=h.ok.trim (aw:Int);rcases hL.trim h.off h.arm h.lg.len (h.lg.xe n1 n8) hl with ⟨k',I',d1,f',ko,m',e,hm',hL',o1,a1,a2,p1,z1⟩|⟨k',e',I1,I',d1,g1,f',ko,m',nw,e,he,o1,a0,p1,hD⟩
 ·rw[e]at bC
  exact .inl ⟨k',e,⟨h.lg,⟨I',d1,f',ko,m',hL'⟩,o1,a1,bC⟩,λha=>by omega,p1⟩
 rw[e]at bC
 exact .inr ⟨k',e',e,he,o1,⟨by rw[show AL++(none:Option bD).toList=AL from zz3 AL];exact h.lg,⟨I1,I',d1,g1,f',ko,m',nw,hD⟩,bC.d⟩,a0,p1⟩
def KD.open{n tr N:Nat}{AL:List bD}{t:Option bD}{d:DS}(h:KD n tr N AL t d)(n1:1<=n)(n8:n<=8)(keep:Ω){size:Int}(s0:64<=size)(s1:size<=65536){B:List PF}(hB:∀x∈B,8192<=x.id):
  ∃k' dO,kx (b_ [] B (d.dB keep)) n size=(b_ [] B k'.d,.ok (k'.eh B))/\KV n tr (N+200000) dO k'/\k'.d.arm=0/\k'.d.ops<=d.ops+1/\(dO=AL\/∃x,t=some x/\dO=AL++[x]) /\
   (∀d' g,dN (b_ [] B (d.dB keep)) 16 size=(d',.ok g)->(bR g.bf).length<=1001):=by
 obtain⟨I,I',d0,g,f,lo,m,nw,hD⟩:=h.dead;have pU:∀l,l=[]\/(∃x,t=some x/\l=[x])->lD n (AL++l):=λl hl=>by
  rcases hl with rfl|⟨x,rfl,rfl⟩
  ·rw[zz3];have:=h.lg.take AL.length
   grind
  exact h.lg
 have S4:=pU [] (.inl rfl);rw[zz3]at S4
 obtain⟨k',nk,I2,d2,f2,m2,e,hL,o1,a1,p1,ha⟩:=hD.open n1 n8 keep (λl hl=>⟨(pU l hl).ok,(pU l hl).xe n1 n8⟩) S4.len s0 s1;have hT:lD n nk:=by
  grind
 have lN:=h.ok.dB keep;have hg:=V' e;have o8:∃J d3,d.dB keep=b_ J [] d3/\cN 16 4112 J [] d3.R/\∀x∈J,0<=x.id:=by
  refine⟨dU I' keep,d0.dB (keep.drop I'.length),by rw[hD.pE,UL],hD.bz.dB keep _ [],λx hx=>?_⟩;obtain⟨y,hy,ey⟩:=Dd hx;have:=h.ok.ids y (by rw[hD.pE];show y∈I'++d0.R++[];simp[hy]);omega
 obtain⟨J,d3,e3,w3,j3⟩:=o8;have Ib:=brs w3 j3 hB (n:Int) size;rw[<- e3,e]at Ib
 have hj:∀d:DS,b_ J B d=b_ [] B (b_ J [] d):=λd=>by unfold b_;simp
 rw[hj,<- e3]at Ib
 refine⟨k',nk,Ib,⟨hT,⟨I2,d2,f2,lo,m2,hL⟩,o1,by rw[a1];exact yyj _,?_⟩,a1,p1,ha,?_⟩
 ·have EV:=JU lN (by have:=lN.Dn;omega) hg;have vi:=FO (base:=16) (size:=size) lN;rw[hg]at vi
  exact⟨EV.mono (by omega),vi.mono (by omega),by rw[hL.ts];exact hT.mA.1,by rw[hL.ts];exact hT.mA.2,by rw[hL.ts,po];exact n1,by rw[hL.ts,po];exact n8⟩
 intro d' g' wJ;have xd:cN 16 (16+4096) J B d3.R:=⟨w3.a,w3.m,λx hx=>by have:=hB x hx;omega⟩;obtain⟨e4,_⟩:=AZ (base:=16) (size:=size) xd;obtain⟨e5,_⟩:=AZ (base:=16) (size:=size) w3;rw[e3,<- hj]at wJ
 rw[e3,e5]at hg
 rw[e4]at wJ
 have h1:=yyp Prod.snd hg;have h2:=yyp Prod.snd wJ;simp only at h1 h2;rw[h1]at h2
 cases h2;rw[hL.log.fG,zzv,zzq];have:=hT.len;omega
def fJ.wd{g:bV}{d d':DS}{f n:Int}{es:List Φ}(h:fJ g d f n es)(hR:d'.R=d.R)(ho:d'.off=false):fJ g d' f n es:=(h.laid.sw hR).inv ho
def bwj(d:DS)(f:Int)(p:Nat):∃i,(d.remove f).1.ops=d.ops+i/\({d with ops:=p}:DS).remove f=({(d.remove f).1 with ops:=p+i},(d.remove f).2):=by
 unfold DS.remove;rw[show ({d with ops:=p}:DS).find f=d.find f from rfl,show ({d with ops:=p}:DS).bG.off=d.bG.off from rfl];split
 ·grind
 split
 ·exact⟨1,rfl,rfl⟩
 exact⟨1,rfl,rfl⟩
def a_p(d:DS)(f n:Int)(p:Nat):∃i,(d.cut f n).1.ops=d.ops+i/\({d with ops:=p}:DS).cut f n=({(d.cut f n).1 with ops:=p+i},(d.cut f n).2):=by
 unfold DS.cut;rw[show ({d with ops:=p}:DS).find f=d.find f from rfl,show ({d with ops:=p}:DS).bG.off=d.bG.off from rfl];split
 ·grind
 split
 ·grind
 split
 ·exact⟨1,rfl,rfl⟩
 exact⟨1,rfl,rfl⟩
def VC(g:bV)(d:DS)(p:Nat):∃i,(cw g d).1.2.ops=d.ops+i/\cw g {d with ops:=p}=(((cw g d).1.1,{(cw g d).1.2 with ops:=p+i}),(cw g d).2):=by
 unfold cw;cases g.cC with
 | none=>exact⟨0,rfl,rfl⟩
 | some x=>
  simp only;split
  ·obtain⟨i,e1,e2⟩:=bwj d x.file p
   grind
  obtain⟨i,e1,e2⟩:=a_p d x.file x.nG p
  grind
def BF.wo{g:bV}{d:DS}{f n:Int}{es:List Φ}{q:Φ}(h:BF g d f n es q)(a:Int)(p:Nat):BF g {d with arm:=a,ops:=p} f n es q:=by
 refine⟨h.off,h.cC.sw rfl,λb hb sV=>?_,?_⟩
 ·obtain⟨g2,d2,e,l2,a1,a2,a3,a4⟩:=h.m2 b hb sV;obtain⟨i,e1,e2⟩:=VC g {d with arm:=b} p;rw[e]at e1 e2
  have e1:d2.ops=d.ops+i:=e1;exact⟨g2,{d2 with ops:=p+i},e2,l2.wd rfl l2.off,a1,a2,by show p+i=p+1;omega,a4⟩
 obtain⟨d2,e,r1,r2,r3⟩:=h.m1;obtain⟨i,e1,e2⟩:=VC g {d with arm:=1} p
 grind
def St.wo{g:bV}{d:DS}{es:List Φ}{m:Option Φ}(h:St g d es m)(a:Int)(p:Nat):St g {d with arm:=a,ops:=p} es m:=by
 rcases h with ⟨h1,h2⟩|⟨⟨q,h1⟩,h2⟩|⟨h1,q,w,h2,h3⟩
 ·exact .inl ⟨h1.wd rfl h1.off,h2⟩
 ·exact .inr (.inl ⟨⟨q,h1.wo a p⟩,h2⟩)
 exact .inr (.inr ⟨h1,q,w,h2.sw rfl,h3⟩)
def ij.wd{n:Nat}{k:bO}{xs:List bB}{m:Option bB}(h:ij n k xs m){d':DS}(hR:d'.R=k.d.R)(ho:d'.off=k.d.off):ij n {k with d:=d'} xs m:=by
 have e:d'={k.d with arm:=d'.arm,ops:=d'.ops}:=by
  cases d'
  grind
 rw[e];exact⟨h.st.wo _ _,h.may,h.run,h.len,h.KM⟩
def ik.wd{n:Nat}{k:bQ}{all:List bD}{tr:Nat}{I:List PF}{d0:DS}{f:Int}{lo m:Nat}(h:ik n k all tr I d0 f lo m){d':DS}(hR:d'.R=k.d.R):ik n {k with d:=d'} all tr I {d' with R:=d0.R} f lo m:=by
 have e:d'.R=I++d0.R++[]:=by rw[hR,h.pE];rfl
 refine⟨?_,h.bz,h.log.sw rfl,h.base,h.jS,h.image,h.uo,h.se,h.ts,h.file⟩;cases d';simp only at e;subst e;rfl
def sC.wd{n:Nat}{d:DS}{all:List bD}{t:Option bD}{tr:Nat}{I I':List PF}{d0:DS}{g:bV}{f:Int}{lo m:Nat}{nw:Int}(h:sC n d all t tr I I' d0 g f lo m nw){d':DS}(hR:d'.R=d.R):sC n d' all t tr I I' {d' with R:=d0.R} g f lo m nw:=by
 have e:d'.R=I'++d0.R++[]:=by rw[hR,h.pE];rfl
 refine⟨?_,h.bz,?_,h.base,h.f16,h.file,h.empty,h.jS,h.xe,h.uo,h.se⟩
 ·cases d';simp only at e;subst e;rfl
 rcases h.log with hl|⟨q,w,hT,hw⟩
 ·exact .inl (hl.sw rfl)
 exact .inr ⟨q,w,hT.sw rfl,hw⟩
def DS.Ok.wd{d d':DS}{N:Nat}(h:d.Ok N)(hR:d'.R=d.R)(a0:0<=d'.arm)(a1:d'.arm<=9223372036854775807):d'.Ok N:=⟨by rw[hR];exact h.sorted,by rw[hR];exact h.ids,by rw[hR];exact h.safe,by rw[hR];exact h.len,a0,a1⟩
def KV.wd{n tr N:Nat}{AL:List bD}{k:bQ}(h:KV n tr N AL k){d':DS}(hR:d'.R=k.d.R)(ho:d'.off=false)(a0:0<=d'.arm)(a1:d'.arm<=9223372036854775807):KV n tr N AL {k with d:=d'}:=by
 obtain⟨I,d0,f,lo,m,hL⟩:=h.live;exact⟨h.lg,⟨I,_,f,lo,m,hL.wd hR⟩,ho,a0,⟨h.ok.g,h.ok.d.wd hR a0 a1,h.ok.rows,h.ok.len,h.ok.n1,h.ok.n8⟩⟩
def KD.wd{n tr N:Nat}{AL:List bD}{t:Option bD}{d d':DS}(h:KD n tr N AL t d)(hR:d'.R=d.R)(a0:0<=d'.arm)(a1:d'.arm<=9223372036854775807):KD n tr N AL t d':=by
 obtain⟨I,I',d0,g,f,lo,m,nw,hD⟩:=h.dead;exact⟨h.lg,⟨I,I',_,g,f,lo,m,nw,hD.wd hR⟩,h.ok.wd hR a0 a1⟩
theorem Dg:∀(A B:List gF) (L:List Rq),fE L (A++B)=(fE L A).bind λL'=>fE L' B
 | [],B,L=>rfl
 | n::A,B,L=>by
  rw[zzn];simp only[fE];cases nO L n with
  | none=>rfl
  | some L'=>exact Dg A B L'
def bqw{A B:List gF}{L R:List Rq}(h:fE L (A++B)=some R):∃L',fE L A=some L'/\fE L' B=some R:=by
 rw[Dg]at h
 cases hA:fE L A with
 | none=>rw[hA]at h;cases h
 | some L'=>rw[hA]at h;exact⟨L',rfl,h⟩
structure Gr(n:Nat)(k k':bO)(xs:List bB)(x:bB)(L:List Rq)(e:Int):Prop where
 ops:k'.d.ops<=k.d.ops+3
 plan:∀f∈k'.plan,f∈k.plan
 pl:k'.plan.length<=k.plan.length
 arm:k.d.arm=0->k'.d.arm=0
 res:(e=0/\k'.d.off=false/\(∃bZ,ij n k' bZ none/\bZ.length<=xs.length+1)/\((k.aw<x.aw/\k'.tr=((ep k.ts x.ops).1,L,x.aw))\/(¬k.aw<x.aw/\k'.tr=k.tr))) \/
  (e=9/\k'.d.off=false/\(∃bZ,ij n k' bZ none/\bZ.length<=xs.length+1)/\((k.aw<x.aw/\k'.tr=((ep k.ts x.ops).1,L,x.aw))\/k'.tr=k.tr)) \/
  (e=8/\k'.d.off=true/\k.d.arm≠0/\(∃m',ij n k' xs m'/\∀y,m'=some y->y=x/\k.aw<x.aw)/\k'.tr=k.tr)
def a_a{n:Nat}{k:bO}{xs:List bB}(h:ij n k xs none)(ha:0<=k.d.arm)(ho:k.d.off=false)(hl:xs.length<=900)(dm:∀f∈k.plan,fI f=true){x:bB}{L:List Rq}(hm:du x=true)(hf:k.aw<x.aw->fj n k.reqs x=some L):
  Gr n k (k.eX x).1 xs x L (k.eX x).2:=by
 have h1:¬(du x=false\/(k.aw<x.aw/\fj k.ts.length k.reqs x=none)):=by
  rintro (h1|⟨h1,h2⟩)
  ·grind
  rw[h.len,hf h1]at h2;cases h2
 have hw:∀k0:bO,ij n k0 xs none->k0.d=k.d->k0.reqs=k.reqs->k0.aw=k.aw->k0.ts=k.ts->k.aw<x.aw->∀b:Int,(b=0\/b=9)->(∀f∈k0.plan,f∈k.plan)->k0.plan.length<=k.plan.length->Gr n k (k0.ga x L).1 xs x L (if (k0.ga x L).2=0 then b else (k0.ga x L).2):=by
  intro k0 h0 e1 e2 e3 e4 b9 b hb mV pc;rcases bKn h0 (by rw[e1];exact ha) (by rw[e1];exact ho) hl (L:=L) (by rw[e2];exact hf b9) (by rw[e3];exact b9) with ⟨w1,w2,w3,w4,w5,w6,w7⟩|⟨w1,w2,w3,w4,w5,w6,w7⟩
  ·rw[w1,zzc rfl];refine⟨by rw[e1]at w7;exact w7,by rw[w4];exact mV,by rw[w4];exact pc,λa=>w6 (by rw[e1];exact a),?_⟩
   grind
  rw[w1,zzb (by decide)];have AK:k0.tr=k.tr:=by unfold bO.tr;rw[e2,e3,e4]
  exact⟨by rw[e1]at w7;exact w7,by rw[w4];exact mV,by rw[w4];exact pc,λa=>by rw[e1]at w6;exact absurd a w6,.inr (.inr ⟨rfl,w5,by rw[e1]at w6;exact w6,⟨_,w2,λy hy=>by cases hy;exact⟨rfl,b9⟩⟩,w3.trans AK⟩)⟩
 unfold bO.eX;rw[zzb h1,zzb (by rw[ho];decide)];simp only;cases hp:k.plan with
 | nil=>
  simp only;by_cases b9:k.aw<x.aw
  ·rw[zzc b9,h.len,hf b9];have:=hw k h rfl rfl rfl rfl b9 0 (.inl rfl) (λf hf=>hf) (zzj _)
   grind
  rw[zzb b9];exact⟨Nat.le_add_right _ _,λf hf=>hf,zzj _,id,.inl ⟨rfl,ho,⟨xs,h,Nat.le_succ _⟩,.inr ⟨b9,rfl⟩⟩⟩
 | cons f r=>
  simp only;have o9:ij n {k with plan:=r} xs none:=h.plan r;have pW:∀g∈r,g∈k.plan:=λg hg=>by rw[hp];exact .tail _ hg
  have hlen:r.length<=k.plan.length:=by rw[hp];simp
  have hid:Gr n k {k with plan:=r} xs x L 9:=⟨by show k.d.ops<=_;omega,pW,hlen,id,.inr (.inl ⟨rfl,ho,⟨xs,o9,by omega⟩,.inr rfl⟩)⟩;split
  ·by_cases b9:k.aw<x.aw
   ·rw[zzc b9,h.len,hf b9];exact hw {k with plan:=r} o9 rfl rfl rfl rfl b9 9 (.inr rfl) pW hlen
   grind
  by_cases h2:f.kind=2/\k.aw<x.aw
  ·rw[zzc h2];have wN:0<=f.keep:=by
    have:=dm f (by rw[hp];exact .head _)
    grind [fI]
   obtain⟨j1,j2,j3,j4,j5⟩:=bA7 o9 ha ho hl hm wN;rcases j5 with ⟨q1,q2,q3⟩|⟨q1,q2,q3⟩
   ·rw[q1,zzc rfl];exact⟨yy1 j4 (by show k.d.ops+2<=k.d.ops+3;omega),by rw[j3];exact pW,by rw[j3];exact hlen,q3,.inr (.inl ⟨rfl,q2,⟨xs,j1,by omega⟩,.inr j2⟩)⟩
   rw[q1,zzb (by decide)];exact⟨yy1 j4 (by show k.d.ops+2<=k.d.ops+3;omega),by rw[j3];exact pW,by rw[j3];exact hlen,λa=>absurd a q3,.inr (.inr ⟨rfl,q2,q3,⟨none,j1,λy hy=>by cases hy⟩,j2⟩)⟩
  grind
def JJ:∀(n:Nat) (l:Ω),l.Nodup->(∀x∈l,1<=x/\x<=(n:Int))->l.length<=n
 | 0,l,_,h=>by
  cases l with
  | nil=>exact zzj _
  | cons x l=>have:=h x (.head _);omega
 | n+1,l,hd,h=>by
  by_cases hm:((n+1:Nat):Int)∈l
  ·have h1:=JJ n (l.erase ((n+1:Nat):Int)) (hd.erase _) λx hx=>by
    grind
   grind
  have:=JJ n l hd λx hx=>by
   grind
  omega
def cH.Ok.len{d:cH}(h:d.Ok):d.l.length<=64:=by
 have:=JJ 64 (d.l.map Prod.fst) h.nd λx hx=>by
  obtain⟨m,hm,rfl⟩:=zz5.1 hx;have:=h.w m hm;omega
 grind
def bcx:wk.Ok:=⟨by decide,by decide,by decide,by decide,λ_=>rfl,by simp,by simp⟩
def cH.Ok.add{d:cH}(h:d.Ok)(id w:Int):(d.add id w).Ok:=by
 unfold cH.add;split
 ·exact h
 rename_i hr;split
 ·exact h
 rename_i hf;have h1:=h.oQ;refine⟨h.lF,by show d.at_<((d.l++[(id,w)]).length:Nat);rw[zza];simp;omega,h.Fy,h.Fz,h.neg,λm hm=>?_,?_⟩
 ·rcases zz4.1 hm with hm|hm
  ·exact h.w m hm
  grind
 show ((d.l++[(id,w)]).map Prod.fst).Nodup;rw[zzr,List.nodup_append];refine⟨h.nd,by simp,λa ha b hb=>?_⟩;obtain⟨m,hm,rfl⟩:=zz5.1 ha;have hb:b=id:=by simpa using hb
 subst hb;have:=wwb.1 hf m hm;simpa using this
def cH.Ok.del{d:cH}(h:d.Ok)(id:Int):(d.del id).Ok:=by
 unfold cH.del;split
 ·exact h
 rename_i i hf;have hi:i<d.l.length:=(yym.1 hf).1;have h0:=h.lF;have h1:=h.oQ;have hl:(d.l.eraseIdx i).length=d.l.length-1:=by rw[uuj,zzc hi]
 refine⟨?_,?_,?_,?_,λhn=>?_,λm hm=>h.w m (vve hm),?_⟩
 ·grind
 ·grind
 ·simp only;split
  ·grind
  exact h.Fy
 ·simp only;split
  ·decide
  exact h.Fz
 ·simp only at hn ⊢;split
  ·rfl
  split at hn
  ·omega
  exact h.neg hn
 simp only;exact h.nd.sublist ((List.eraseIdx_sublist _ _).map _)
def cH.Ok.pl{d:cH}(h:d.Ok)(cY:d.l≠[]):0<=d.place/\d.place<d.l.length/\d.ly∈d.l:=by
 have dm:0<=d.place/\d.place<d.l.length:=by
  have:=h.neg;have:=h.lF;have:=h.oQ
  grind [cH.place]
 grind [cH.ly]
def cH.Ok.next{d:cH}(h:d.Ok):d.next.1.Ok:=by
 unfold cH.next;split
 ·exact h
 rename_i cY;obtain⟨h1,h2,h3⟩:=h.pl cY;have hw:=h.w _ h3;have pR:=h.Fy;have tZ:=h.Fz;refine⟨by simp only;omega,by simp only;omega,?_,?_,λhn=>?_,h.w,h.nd⟩
 ·grind
 ·grind
 grind
def bqo{d:cH}(h:d.Ok)(cY:d.l≠[]):d.next.2=d.ly.1/\d.ly∈d.l:=by
 unfold cH.next;rw[zzb cY];exact⟨rfl,(h.pl cY).2.2⟩
def bqp(d:cH):d.next.1.l=d.l:=by
 grind [cH.next]
def R4:∀(L:List Rq) {d:cH},d.Ok->(L.foldl (λd r=>d.del r.id) d).Ok
 | [],_,h=>h
 | r::L,_,h=>R4 L (h.del r.id)
def PX:∀(L:List Rq) {d:cH},d.Ok->(L.foldl (λd r=>d.add r.id r.weight) d).Ok
 | [],_,h=>h
 | r::L,_,h=>PX L (h.add r.id r.weight)
def bwo{d:cH}(h:d.Ok)(L:List Rq):(lz d L).Ok:=PX _ (R4 _ h)
def bci(d:cH)(id:Int):∀m∈(d.del id).l,m∈d.l:=λm hm=>by
 unfold cH.del at hm;split at hm
 ·exact hm
 exact vve hm
theorem R5:∀(L:List Rq) (d:cH),∀m∈(L.foldl (λd r=>d.del r.id) d).l,m∈d.l
 | [],_,m,h=>h
 | r::L,d,m,h=>bci d r.id m (R5 L (d.del r.id) m h)
theorem aF8(d:cH)(id w:Int):∀m∈(d.add id w).l,m∈d.l\/m=(id,w):=λm hm=>by
 grind [cH.add]
def aF9(d:cH)(id w:Int):∀m∈d.l,m∈(d.add id w).l:=λm hm=>by
 grind [cH.add]
def PY:∀(L:List Rq) (d:cH),∀m∈(L.foldl (λd r=>d.add r.id r.weight) d).l,m∈d.l\/∃r∈L,m=(r.id,r.weight)
 | [],_,m,h=>.inl h
 | r::L,d,m,h=>by
  rcases PY L (d.add r.id r.weight) m h with h|⟨x,hx,e⟩
  ·grind [aF8]
  grind
def PZ:∀(L:List Rq) (d:cH),∀m∈d.l,m∈(L.foldl (λd r=>d.add r.id r.weight) d).l
 | [],_,m,h=>h
 | r::L,d,m,h=>PZ L (d.add r.id r.weight) m (aF9 d r.id r.weight m h)
def bwp(d:cH)(L:List Rq):∀m∈(lz d L).l,m∈d.l\/∃r∈je L,m=(r.id,r.weight):=λm hm=>by
 rcases PY _ _ m hm with h|h
 ·grind [R5]
 exact .inr h
def aF7(d:cH){id w:Int}(h1:1<=id/\id<=64)(h2:1<=w/\w<=8):∃m∈(d.add id w).l,m.1=id:=by
 unfold cH.add;rw[zzb (by omega)];cases hf:AP d id with
 | some i=>
  obtain⟨hi,hk,_⟩:=yym.1 hf
  grind
 | none=>exact⟨(id,w),by simp,rfl⟩
def fq.at{L:List Rq}(h:fq L){r:Rq}(hr:r∈L):1<=r.id/\r.id<=L.length/\r.id<=64/\1<=r.weight/\r.weight<=8/\0<=r.table/\r.table<8/\0<=r.cG/\r.cG<=1099511627776:=by
 obtain⟨i,hi,rfl⟩:=yyh hr;obtain⟨⟨h1,h2,h3,h4,h5,h6,h7,h8,h9,sP,vd⟩,_⟩:=h.2 i hi;have:=h.1
 grind
def bwn{d:cH}{L:List Rq}(hL:fq L)(h:je L≠[]):(lz d L).l≠[]:=by
 unfold lz;generalize (L.filter (·.done)).foldl (λd r=>d.del r.id) d=d1;have jR:∀r∈je L,r∈L:=λr hr=>(yy0.1 hr).1;generalize je L=O at *
 match O,h with
 | r::O,_=>
  have ha:=hL.at (jR r (.head _));obtain⟨m,hm,_⟩:=aF7 d1 (id:=r.id) (w:=r.weight) (by omega) (by omega);have:=PZ O (d1.add r.id r.weight) m hm
  grind
structure eD.Good(p:eD)(N:Nat):Prop where
 reqs:fq p.m.reqs
 t1:1<=p.m.tables/\p.m.tables<=8
 lF:0<=p.m.at_/\p.m.at_<=1099511627776
 wn:p.m.bz.n<=64
 rows:p.m.bz.rows.length<=64
 wid:0<=p.m.bz.id/\p.m.bz.id<=64
 d:p.d.Ok
 ids:∀m∈p.d.l,m.1<=p.m.reqs.length
 n:1<=p.n/\p.n<=64
 src:iP p.k N
def eD.Good.row{p:eD}{N:Nat}(h:p.Good N):(lz p.d p.m.reqs).Ok/\∀m∈(lz p.d p.m.reqs).l,m.1<=p.m.reqs.length:=by
 refine⟨bwo h.d _,λm hm=>?_⟩;rcases bwp _ _ m hm with hm|⟨r,hr,rfl⟩
 ·exact h.ids m hm
 exact (h.reqs.at (yy0.1 hr).1).2.1
def eD.Good.mB{p:eD}{N:Nat}(h:p.Good N)(ho:je p.m.reqs≠[]):∃r,uz p.m.reqs (lz p.d p.m.reqs).next.2=some r/\r∈p.m.reqs/\r.id=(lz p.d p.m.reqs).next.2:=by
 obtain⟨h1,h2⟩:=h.row;have cY:=bwn (d:=p.d) h.reqs ho;obtain⟨e,hm⟩:=bqo h1 cY;have ha:=h1.w _ hm;have hb:=h2 _ hm;rw[e];generalize (lz p.d p.m.reqs).ly.1=id at *
 have b9:(id-1).toNat<p.m.reqs.length:=by omega
 refine⟨p.m.reqs[(id-1).toNat],?_,zzk _,?_⟩
 ·unfold uz;rw[zzb (by omega),zzd b9]
 have:=(h.reqs.2 _ b9).1.1;omega
theorem aF2{L L':List Rq}{t w a:Int}(h:oO L t w a=some L'):L'.length=L.length+1:=by
 grind [oO]
theorem aWs{L L':List Rq}{id c:Int}{dn:Bool}(h:lG L id c dn=some L'):L'.length=L.length:=by
 unfold lG at h;split at h
 ·split at h
  ·split at h
   ·cases h
   cases h;exact yyl
  cases h
 cases h
def aF3(m:cI)(s:Η)(aw:Int):m.reqs.length<=(m.accept s aw).1.length/\(fq m.reqs->fq (m.accept s aw).1):=by
 grind [cI.accept,aF2,BL]
def G9(aw:Int):∀(l:Ψ) (m:cI),m.reqs.length<=(m.eg aw l).1.reqs.length/\(fq m.reqs->fq (m.eg aw l).1.reqs)/\(m.eg aw l).1.bz=m.bz/\(m.eg aw l).1.tables=m.tables/\(m.eg aw l).1.late=m.late/\(m.eg aw l).1.at_=m.at_
 | [],m=>⟨zzj _,id,rfl,rfl,rfl,rfl⟩
 | s::l,m=>by
  obtain⟨a,b⟩:=aF3 m s aw;obtain⟨c,d,e⟩:=G9 aw l {m with reqs:=(m.accept s aw).1};exact⟨yy1 a c,λh=>d (b h),e⟩
def bAs{m:cI}{t:bD}(h:fq m.reqs)(hr:m.bz.rows.length<=64)(hn:m.bz.n<=64)(hi:0<=m.bz.id/\m.bz.id<=64)(ha:0<=m.at_/\m.at_<=1099511627776):
  m.reqs.length<=(m.take t).1.reqs.length/\fq (m.take t).1.reqs/\(m.take t).1.tables=m.tables/\(0<=(m.take t).1.at_/\(m.take t).1.at_<=1099511627776)/\(m.take t).1.bz.n<=64/\(m.take t).1.bz.rows.length<=64/\0<=(m.take t).1.bz.id/\(m.take t).1.bz.id<=64:=by
 have uh:m.reqs.length<=m.reqs.length/\fq m.reqs/\m.tables=m.tables/\(0<=m.at_/\m.at_<=1099511627776)/\m.bz.n<=64/\m.bz.rows.length<=64/\0<=m.bz.id/\m.bz.id<=64:=⟨zzj _,h,rfl,ha,hn,hr,hi⟩;unfold cI.take;split
 ·exact uh
 rename_i hm;obtain⟨m1,_⟩:=kr (show c_ t=true by cases hq:c_ t with
  | true=>rfl
  | false=>exact absurd hq hm)
 split
 ·exact uh
 split
 ·unfold cI.xY;simp only;obtain⟨a,b,c,d,_,f⟩:=G9 t.aw t.signals {m with at_:=t.aw};generalize ({m with at_:=t.aw}:cI).eg t.aw t.signals=y at *
  grind [cL.p_]
 split
 ·unfold cI.high;simp only;have Iy:∀w o,m.bz.high t.mark t.aw=(w,o)->w.n<=64/\w.rows.length<=64/\0<=w.id/\w.id<=64:=λw o e=>by
   grind [cL.high]
  split
  ·grind
  grind [aWs,D6]
 grind [cL.low]
def Ring(b cap:Nat)(L:Ψ):zC:=iX λc:Nat=>iX λfirst:Nat=>iX λA:Ψ=>
 zF (A.length=cap/\0<cap/\cap<=64/\first<cap/\L.length<=cap/\∀i,i<L.length->A[(first+i) % cap]?=L[i]?)
 [.pt b [.slice (some ⟨c,0,none⟩) cap cap,Γ first,Γ L.length] 175,.pt c (A.map .string) 9]
def Ring.open{W w:Ζ}{b cap:Nat}{L:Ψ}{l:Β}(h:SL W (.ob (Ring b cap L)::l) w):∃(c first:Nat) (A:Ψ),
  (A.length=cap/\0<cap/\cap<=64/\first<cap/\L.length<=cap/\∀i,i<L.length->A[(first+i) % cap]?=L[i]?) /\
  SL W (.pt b [.slice (some ⟨c,0,none⟩) cap cap,Γ first,Γ L.length] 175::.pt c (A.map .string) 9::l) w:=by
 simpa only[Ring,SL.ex,SL.fact,zzn,zzo] using h
def Ring.close{W w:Ζ}{b c first cap:Nat}{L A:Ψ}{l:Β}(hA:A.length=cap/\0<cap/\cap<=64/\first<cap/\L.length<=cap/\∀i,i<L.length->A[(first+i) % cap]?=L[i]?)
  (h:SL W (.pt b [.slice (some ⟨c,0,none⟩) cap cap,Γ first,Γ L.length] 175::.pt c (A.map .string) 9::l) w):SL W (.ob (Ring b cap L)::l) w:=by
 simp only[Ring,SL.ex,SL.fact,zzn,zzo];exact⟨c,first,A,hA,h⟩
def VM{cap first i j:Nat}(hi:i<cap)(hj:j<cap)(h:(first+i) % cap=(first+j) % cap):i=j:=by
 have h1:=vv0 (first+i) cap;have h2:=vv0 (first+j) cap;rw[h]at h1
 rcases Nat.lt_trichotomy ((first+i) / cap) ((first+j) / cap) with hd|hd|hd
 ·have:=uuq cap hd;simp only[Nat.succ_eq_add_one,Nat.mul_add,vvs]at this;omega
 ·rw[hd]at h1;omega
 have:=uuq cap hd;simp only[Nat.succ_eq_add_one,Nat.mul_add,vvs]at this;omega
def ZM(b c cap first n i:Nat)(Co:0<cap)(om:cap<=64)(hf:first<cap)(hi:i<=64):
  SP 186 [Δ b,Γ i] [.pt b [.slice (some ⟨c,0,none⟩) cap cap,Γ first,Γ n] 175]
   (bA (Γ (((first+i) % cap:Nat):Int)) [.pt b [.slice (some ⟨c,0,none⟩) cap cap,Γ first,Γ n] 175]):=by
 refine Enzz λW F w hS=>?_;apply bEm;delta bh;refine Gn λw hS=>?_;(exact bw hS)
def yT(b cap:Nat)(L:Ψ):SP 50 [Δ b] [.ob (Ring b cap L)] (bA (Γ L.length) [.ob (Ring b cap L)]):=by
 refine Enzz λW F w hS=>?_;apply bIs;delta bh;obtain⟨c,first,A,hA,hS⟩:=Ring.open hS;refine Gp ?_;have hS:=Ring.close hA hS;(exact bw hS)
def qf(b cap:Nat)(L:Ψ):SP 95 [Δ b] [.ob (Ring b cap L)] (bA (Γ cap) [.ob (Ring b cap L)]):=by
 refine Enzz λW F w hS=>?_;apply bJ3;delta bh;obtain⟨c,first,A,hA,hS⟩:=Ring.open hS;refine Gp ?_;have hS:=Ring.close hA hS;(exact bw hS)
def YM(b cap:Nat)(L:Ψ)(s:Η):SP 129 [Δ b,.string s] [.ob (Ring b cap L)]
  (bA (.bool (decide (L.length<cap))) [.ob (Ring b cap (if L.length<cap then L++[s] else L))]):=by
 refine Enzz λW F w hS=>?_;apply bC2;delta aI bh bS bg bk br ai;obtain⟨c,first,A,hA,hS⟩:=Ring.open hS;obtain⟨h1,h2,h3,h4,h5,h6⟩:=hA;refine Gn λw hS=>?_;refine za (λh=>?_) (λh=>?_)
 ·have b9:¬L.length<cap:=by omega
  simp only[b9,wwt,decide_false];have hS:=Ring.close ⟨h1,h2,h3,h4,h5,h6⟩ hS;(exact bw hS)
 have b9:L.length<cap:=by omega
 have hk:(first+L.length) % cap<cap:=vvc _ h2;simp only[b9,ww0,decide_true];refine Gn λw hS=>?_;refine Cg (ZM b c cap first L.length L.length h2 h3 h4 (by omega)) λw hS=>?_;refine zI hk ?_;refine ZA hS (cs:=A.map .string) Xu (u:=.string (A[(first+L.length) % cap]'(by omega))) ?_ rfl ?_
 ·simp[h1,hk]
 clear hS;intro w hS;refine Gn λw hS=>?_;have hS:=Ring.close (L:=L++[s]) (A:=A.set ((first+L.length) % cap) s) (b:=b) (c:=c) (first:=first) (cap:=cap) ⟨by simp[h1],h2,h3,h4,by simp;omega,λi hi=>?_⟩ (l:=F) (by simpa [vvj] using hS)
 ·(exact bw hS)
 by_cases he:i=L.length
 ·subst he;simp[h1,hk]
 have wK:i<L.length:=by simp at hi;omega
 rw[List.getElem?_set_ne (λe=>he (VM (by omega) b9 e.symm)),h6 i wK,zzy wK]
def VO(n:Nat)(h1:1<=n)(h2:n<=64):SP 110 [Γ n] [] (λv post=>∃b:Nat,v= .tuple #[Δ b,Γ 0]/\post=[.ob (Ring b n [])]):=by
 refine Enzz λW F w hS=>?_;apply bCj;delta aI ai bT bK bc;refine Gp ?_;refine Χ ?_;refine Gp ?_;refine Χ ?_;refine WR hS (zzj _) (by omega) (by omega) ?_;clear hS;intro c w hS;refine Gp ?_;refine⟨_,rfl,zD hS ?_⟩;clear hS;intro b w hS;have hS:=Ring.close (A:=List.replicate n ⟨#[]⟩) (L:=[]) (first:=0) (cap:=n) (b:=b) (c:=c) (l:=F) ⟨by simp,by omega,by omega,by omega,by simp,λi hi=>by simp at hi⟩ (by simpa [bE] using hS);exact⟨_,⟨b,rfl,rfl⟩,hS⟩
def Wf(b cap:Nat):SP 180 [Δ b] [.ob (Ring b cap [])] (bA (.tuple #[.string ⟨#[]⟩,.bool false]) [.ob (Ring b cap [])]):=by
 refine Enzz λW F w hS=>?_;apply XU;delta aI bh ai;obtain⟨c,first,A,hA,hS⟩:=Ring.open hS;refine Gp ?_;refine za (λh=>?_) (λh=>absurd rfl h);have hS:=Ring.close hA hS;(exact bw hS)
def TA{cap first:Nat}{s:Η}{L A:Ψ}(h4:first<cap)(h6:∀i,i<(s::L).length->A[(first+i) % cap]?=(s::L)[i]?):(A.map Value.string)[first]?=some (.string s):=by
 have h0:=h6 0 (by simp);simp only[xxy,wwp h4,List.getElem?_cons_zero]at h0;simp[h0]
def Wg(b cap:Nat)(s:Η)(L:Ψ):SP 180 [Δ b] [.ob (Ring b cap (s::L))] (bA (.tuple #[.string s,.bool true]) [.ob (Ring b cap (s::L))]):=by
 refine Enzz λW F w hS=>?_;apply XU;delta aI bh ai;obtain⟨c,first,A,hA,hS⟩:=Ring.open hS;obtain⟨h1,h2,h3,h4,h5,h6⟩:=hA;refine Gp ?_;refine za (λh=>by simp at h;omega) (λh=>?_);refine Gn λw hS=>?_;refine zI h4 ?_;refine zV hS (cs:=A.map .string) (.tl .hd) (v:=.string s) (by simpa using TA h4 h6) ?_;have hS:=Ring.close ⟨h1,h2,h3,h4,h5,h6⟩ hS;(exact bw hS)
def btg(b cap:Nat):SP 130 [Δ b] [.ob (Ring b cap [])] (bA (.tuple #[.string ⟨#[]⟩,.bool false]) [.ob (Ring b cap [])]):=by
 refine Enzz λW F w hS=>?_;apply XT;delta bh bS ai;refine Cg (Wf b cap) λw hS=>?_;(exact bw hS)
def Wj(b cap:Nat)(s:Η)(L:Ψ):SP 130 [Δ b] [.ob (Ring b cap (s::L))] (bA (.tuple #[.string s,.bool true]) [.ob (Ring b cap L)]):=by
 refine Enzz λW F w hS=>?_;apply XT;delta bh bS ai;refine Cc (Wg b cap s L) ?_;clear hS;rintro v post ⟨rfl,rfl⟩ w hS;try simp only[app]at hS
 obtain⟨c,first,A,hA,hS⟩:=Ring.open hS;obtain⟨h1,h2,h3,h4,h5,h6⟩:=hA;simp only[zzi]at hS h5;refine Gn λw hS=>?_;refine zI h4 ?_;refine ZA hS (cs:=A.map .string) Xu (u:=.string s) (by simpa using TA h4 h6) rfl ?_;clear hS;intro w hS;refine Cg (ZM b c cap first (L.length+1) 1 h2 h3 h4 (by omega)) λw hS=>?_;have hS:=Ring.close (L:=L) (A:=A.set first ⟨#[]⟩) (b:=b) (c:=c) (first:=(first+1) % cap) (cap:=cap) (l:=F) ⟨by simp[h1],h2,h3,vvc _ h2,by omega,λi hi=>?_⟩ (by simpa [vvj] using hS)
 ·(exact bw hS)
 have e1:((first+1) % cap+i) % cap=(first+(i+1)) % cap:=by
  rw[Nat.mod_add_mod];congr 1;omega
 have e2:first≠(first+(i+1)) % cap:=λe=>by
  have:=VM (cap:=cap) (first:=first) (i:=0) (j:=i+1) h2 (by omega) (by rw[xxy,wwp h4];exact e);omega
 rw[e1,List.getElem?_set_ne e2,h6 (i+1) (by simp;omega),List.getElem?_cons_succ]
def Gate(g b cap out:Nat)(L:Ψ):zC:=zF (L.length+out<=cap/\cap<=64) [.pt g [Δ b,Γ out] 114,.ob (Ring b cap L)]
def Gate.open{W w:Ζ}{g b cap out:Nat}{L:Ψ}{l:Β}(h:SL W (.ob (Gate g b cap out L)::l) w):(L.length+out<=cap/\cap<=64) /\
  SL W (.pt g [Δ b,Γ out] 114::.ob (Ring b cap L)::l) w:=by
 simpa only[Gate,SL.fact,zzn,zzo] using h
def Gate.close{W w:Ζ}{g b cap out:Nat}{L:Ψ}{l:Β}(hA:L.length+out<=cap/\cap<=64)
  (h:SL W (.pt g [Δ b,Γ out] 114::.ob (Ring b cap L)::l) w):SL W (.ob (Gate g b cap out L)::l) w:=by
 simp only[Gate,SL.fact,zzn,zzo];exact⟨hA,h⟩
def bgd(n:Nat)(h1:1<=n)(h2:n<=64):SP 111 [Γ n] [] (λv post=>∃g b:Nat,v= .tuple #[Δ g,Γ 0]/\post=[.ob (Gate g b n 0 [])]):=by
 refine Enzz λW F w hS=>?_;apply bCk;delta aI ai bT;refine Cc (VO n h1 h2) ?_;clear hS;rintro v post ⟨b,rfl,rfl⟩ w hS;(try simp only[app]at hS);refine Gp ?_
 refine za (λh1=>absurd rfl h1) (λh1=>?_);refine Gp ?_;refine⟨_,rfl,zD hS ?_⟩;clear hS;intro g w hS;have hS:=Gate.close (out:=0) ⟨by simp,h2⟩ hS;exact⟨_,⟨g,b,rfl,rfl⟩,hS⟩
def zK(g b cap out:Nat)(L:Ψ):SP 52 [Δ g] [.ob (Gate g b cap out L)] (bA (Γ ((cap-L.length-out:Nat):Int)) [.ob (Gate g b cap out L)]):=by
 refine Enzz λW F w hS=>?_;apply bIu;delta bh bg bk;obtain⟨hA,hS⟩:=Gate.open hS;refine Gn λw hS=>?_;refine Cg (qf b cap L) λw hS=>?_;refine Cg (yT b cap L) λw hS=>?_;have hS:=Gate.close (l:=F) hA (by exact aR hS);rw[show (cap:Int)-(L.length:Int)-(out:Int)=((cap-L.length-out:Nat):Int) by omega];(exact bw hS)
def bgi(g b cap out:Nat)(L:Ψ)(s:Η)(h:L.length+out<cap):SP 191 [Δ g,.string s] [.ob (Gate g b cap out L)] (bA (.bool true) [.ob (Gate g b cap out (L++[s]))]):=by
 refine Enzz λW F w hS=>?_;apply bEs;delta aI bh br ai;refine Cg (zK g b cap out L) λw hS=>?_;refine za (λh1=>?_) (λh1=>by omega);obtain⟨hA,hS⟩:=Gate.open hS;refine Gp ?_;refine Cc (YM b cap L s) ?_;clear hS;rintro v post ⟨rfl,rfl⟩ w hS;try simp only[app]at hS
 have b9:L.length<cap:=by omega
 simp only[b9,ww0]at hS;simp only[b9,decide_true];have hS:=Gate.close (l:=F) (g:=g) (b:=b) (out:=out) (cap:=cap) (L:=L++[s]) ⟨by simp;omega,hA.2⟩ (by exact aR hS);(exact bw hS)
def bgg(g b cap out:Nat):SP 252 [Δ g] [.ob (Gate g b cap out [])] (bA (.tuple #[.string ⟨#[]⟩,.bool false]) [.ob (Gate g b cap out [])]):=by
 refine Enzz λW F w hS=>?_;apply XW;delta bh bS ai;obtain⟨hA,hS⟩:=Gate.open hS;refine Gp ?_;refine Cg (btg b cap) λw hS=>?_;have hS:=Gate.close (l:=F) hA (by exact aR hS);(exact bw hS)
def bgh(g b cap out:Nat)(s:Η)(L:Ψ):SP 252 [Δ g] [.ob (Gate g b cap out (s::L))] (bA (.tuple #[.string s,.bool true]) [.ob (Gate g b cap (out+1) L)]):=by
 refine Enzz λW F w hS=>?_;apply XW;delta bh bS ai;obtain⟨hA,hS⟩:=Gate.open hS;simp only[zzi]at hA;refine Gp ?_;refine Cg (Wj b cap s L) λw hS=>?_;have hS:=Gate.close (l:=F) (g:=g) (b:=b) (out:=out+1) (cap:=cap) (L:=L) ⟨by omega,hA.2⟩ (by exact aR hS);(exact bw hS)
def oX(n:Int)(out:Nat):Nat:=(min (max n 0) (out:Int)).toNat
def bga(n:Int)(out:Nat):min (max n 0) (out:Int)=(oX n out:Int):=by unfold oX;omega
def SY(n:Int)(out:Nat):oX n out<=out:=by unfold oX;omega
def Qx(n:Int)(g b cap out:Nat)(L:Ψ):SP 202 [Δ g,Γ n] [.ob (Gate g b cap out L)] (bA (Γ (oX n out:Int)) [.ob (Gate g b cap (out-oX n out) L)]):=by
 refine Enzz λW F w hS=>?_;apply bE4;delta bh bS ai;obtain⟨hA,hS⟩:=Gate.open hS;have hg:=SY n out;refine Gn λw hS=>?_;rw[bga]at hS ⊢
 rw[show (out:Int)-(oX n out:Int)=((out-oX n out:Nat):Int) by omega]at hS
 have hS:=Gate.close (l:=F) (g:=g) (b:=b) (cap:=cap) (L:=L) (out:=out-oX n out) ⟨by omega,hA.2⟩ (by exact aR hS);(exact bw hS)
def bgf(g b cap out:Nat)(L:Ψ):SP 51 [Δ g] [.ob (Gate g b cap out L)] (bA (Γ out) [.ob (Gate g b cap out L)]):=by
 refine Enzz λW F w hS=>?_;apply bIt;delta bh;obtain⟨hA,hS⟩:=Gate.open hS;refine Gp ?_;have hS:=Gate.close (l:=F) hA (by exact aR hS);(exact bw hS)
abbrev pw(b m j:Int):Prop:=1<=b/\b<=1073741824/\b<=m/\m<=1073741824/\0<=j/\j<=1073741824
def wj(k:Nat)(b m:Int):Int:=min (b*2 ^ k) m
def x9(k b m:Int):Int:=if pw b m 0 then wj k.toNat b m else 0
def rj(k b m j draw:Int):Int:=if pw b m j then x9 k b m+max draw 0 % (j+1) else 0
def J6(b:Int)(hb:0<=b){i k:Nat}(h:i<=k):b*2 ^ i<=b*2 ^ k:=
 Int.mul_le_mul_of_nonneg_left (by
  have:=vvu (by decide:0<2) h;have h1:((2:Int) ^ i)=((2 ^ i:Nat):Int):=by simp
  have h2:((2:Int) ^ k)=((2 ^ k:Nat):Int):=by simp
  rw[h1,h2];omega) hb
def R8{k:Nat}{b m:Int}(hb:1<=b){i:Nat}(hi:i<=k)(h:m<=b*2 ^ i):wj k b m=m:=by
 have:=J6 b (by omega) hi;unfold wj;exact Int.min_eq_right (by omega)
def y0(b m j:Int):SP 71 [Γ b,Γ m,Γ j] [] (bA (.bool (decide (pw b m j))) []):=by
 refine Enzz λW F w hS=>?_;apply bJf;delta aI br ai;have hF:∀{w:Ζ},¬pw b m j->SL W F w->∃post,bA (.bool (decide (pw b m j))) [] (.bool false) post/\SL W (app post F) w:=λh hS=>⟨_,⟨by rw[zzx h],rfl⟩,hS⟩;(repeat (first|refine Gp ?_|refine Gw λw hS=>?_|refine za (λ_=>hF (by omega) hS) (λ_=>?_)|refine za (λ_=>?_) (λ_=>hF (by omega) hS)))
 have e:decide (j<=1073741824)=decide (pw b m j):=by rw[yye];omega
 rw[e];exact⟨_,⟨rfl,rfl⟩,hS⟩
def bck{k:Nat}{b m:Int}:wj k b m<=m:=Int.min_le_right _ _
def R9{k b m:Int}:0<=x9 k b m/\x9 k b m<=1073741824:=by
 unfold x9;split
 ·rename_i h;have h1:=@bck k.toNat b m;have h2:=J6 b (by omega) (zz6 k.toNat);rw[Int.pow_zero,Int.mul_one]at h2
  refine⟨?_,by omega⟩;unfold wj;exact Int.le_min.2 ⟨by omega,by omega⟩
 omega
def bxt{a:Int}{n:Nat}{K:Ε->Prop}(hn:n<=30)(hr : -9223372036854775808<=a*2 ^ n/\a*2 ^ n<=9223372036854775807)(h:K (Γ (a*2 ^ n))):zc .shl (Γ a) (Γ (n:Int)) K:=by
 refine⟨Γ (a*2 ^ n),?_,h⟩;have wR:min n 64=n:=xxd (by omega);show (if ((n:Nat):Int)<0 then none else some (Γ (IntKind.i64.wrap (a*2 ^ (min ((n:Nat):Int).toNat 64)))))=_;rw[zzb (by omega),zzw,wR,xx3 _ hr]
def bxv{a:Int}{n:Nat}{K:Ε->Prop}(hn:n<=30)(h:K (Γ (a / 2 ^ n))):zc .shr (Γ a) (Γ (n:Int)) K:=by
 refine⟨Γ (a / 2 ^ n),?_,h⟩;have wR:min n 64=n:=xxd (by omega);have hp:(0:Int)<2 ^ n:=Int.pow_pos (by decide);show (if ((n:Nat):Int)<0 then none else some (Γ (a.fdiv (2 ^ (min ((n:Nat):Int).toNat 64)))))=_;rw[zzb (by omega),zzw,wR,vvr _ (by omega)]
def Qs(k b m:Int):SP 326 [Γ k,Γ b,Γ m] [] (bA (Γ (x9 k b m)) []):=by
 refine Enzz λW F w hS=>?_;apply bH1;delta aI bJ ai;refine Gp ?_;refine Cc (y0 b m 0) ?_;clear hS;rintro v post ⟨rfl,rfl⟩ w hS;try simp only[app]at hS
 unfold x9;by_cases hm:pw b m 0
 ·rw[zzc hm,zzm hm];obtain⟨h1,h2,h3,h4,_⟩:=hm;refine Gp ?_;refine zq ?_;refine Gp ?_;have ek:max k 0=(k.toNat:Int):=by omega
  rw[ek];generalize k.toNat=n at *
  refine za (λhk=>?_) (λhk=>?_)
  ·have h5:(1073741824:Int)<=b*2 ^ 30:=by
    have:(1:Int)*2 ^ 30<=b*2 ^ 30:=Int.mul_le_mul_of_nonneg_right h1 (by decide);omega
   rw[R8 h1 (i:=30) (by omega) (by omega)];exact⟨_,⟨rfl,rfl⟩,hS⟩
  have hp:(0:Int)<2 ^ n:=Int.pow_pos (by decide);refine bxv (by omega) ?_;refine bj (λhg=>?_) (λhg=>?_)
  ·have:m<b*2 ^ n:=(Int.ediv_lt_iff_lt_mul hp).1 hg;rw[R8 h1 (zzj n) (by omega)];exact⟨_,⟨rfl,rfl⟩,hS⟩
  have hle:b*2 ^ n<=m:=(Int.le_ediv_iff_mul_le hp).1 (by omega);have h0:=J6 b (by omega) (zz6 n);rw[Int.pow_zero,Int.mul_one]at h0
  refine bxt (by omega) (by omega) ?_;have e:wj n b m=b*2 ^ n:=by unfold wj;exact Int.min_eq_left hle
  rw[e];exact⟨_,⟨rfl,rfl⟩,hS⟩
 rw[zzb hm,zzx hm];refine Gp ?_;refine zu ?_;exact⟨_,⟨rfl,rfl⟩,hS⟩
def X4{k b m j draw:Int}:0<=rj k b m j draw/\rj k b m j draw<=2147483648:=by
 unfold rj;split
 ·rename_i h;obtain⟨_,_,_,_,h5,h6⟩:=h;have h1:=@R9 k b m;have h2:=ww8 (max draw 0) (b:=j+1) (by omega);have h3:=vv1 (max draw 0) (b:=j+1) (by omega);omega
 omega
def bJ9(k b m j draw:Int):SP 296 [Γ k,Γ b,Γ m,Γ j,Γ draw] [] (bA (Γ (rj k b m j draw)) []):=by
 refine Enzz λW F w hS=>?_;apply bHg;delta bJ ai;refine Cc (y0 b m j) ?_;clear hS;rintro v post ⟨rfl,rfl⟩ w hS;try simp only[app]at hS
 unfold rj;by_cases hm:pw b m j
 ·rw[zzc hm,zzm hm];obtain⟨h1,h2,h3,h4,h5,h6⟩:=hm;refine Gp ?_;refine zq ?_;refine Gn λw hS=>?_;refine ZO (by omega) ?_;rw[xx4 (by omega)];have h7:=ww8 (max draw 0) (b:=j+1) (by omega);have h8:=vv1 (max draw 0) (b:=j+1) (by omega);have h9:=@R9 k b m;generalize max draw 0 % (j+1)=r at *
  refine Cg (Qs k b m) λw hS=>?_;(exact bw hS)
 rw[zzb hm,zzx hm];refine Gp ?_;refine zu ?_;exact⟨_,⟨rfl,rfl⟩,hS⟩
def rD(now:Int):Int:=max 0 (min now 1125899906842624)
def Rx(now:Int):0<=rD now/\rD now<=1125899906842624:=by unfold rD;omega
abbrev rtc(b m j f u:Int):Ξ:=[Γ b,Γ m,Γ j,Γ f,Γ u]
abbrev jK(p:Nat)(b m j f u:Int):Μ:=.pt p (rtc b m j f u) 186
def bBg(b m j:Int):SP 112 [Γ b,Γ m,Γ j] [] (λv post=>if pw b m j then ∃p:Nat,v= .tuple #[Δ p,Γ 0]/\post=[jK p b m j 0 0] else v= .tuple #[.pointer none,Γ 1]/\post=[]):=by
 refine Enzz λW F w hS=>?_;apply bCl;delta bJ ai bT;refine Cc (y0 b m j) ?_;clear hS;rintro v post ⟨rfl,rfl⟩ w hS;try simp only[app]at hS
 by_cases hm:pw b m j
 ·rw[zzm hm];refine Gp ?_;refine zq ?_;refine Gp ?_;refine⟨_,rfl,zD hS λp w hS=>?_⟩;exact⟨[jK p b m j 0 0],(zzc hm).mpr ⟨p,rfl,rfl⟩,hS⟩
 rw[zzx hm];refine Gp ?_;refine zu ?_;exact⟨[],(zzb hm).mpr ⟨rfl,rfl⟩,hS⟩
def bBu(b m j k draw:Int):SP 255 [agg [Γ b,Γ m,Γ j],Γ k,Γ draw] [] (bA (Γ (rj k b m j draw)) []):=by
 refine Enzz λW F w hS=>?_;apply bGg;delta aW;refine⟨_,rfl,zD hS λp w hS=>?_⟩;refine Gp ?_;refine Cg (bJ9 k b m j draw) λw hS=>?_;(exact bw hS)
def bBd(p:Nat)(b m j f u now draw:Int)(hf:0<=f/\f<=1000000000):SP 204 [Δ p,Γ now,Γ draw] [jK p b m j f u] (bA (Γ (rD now+rj (f+1) b m j draw)) [jK p b m j (f+1) (rD now+rj (f+1) b m j draw)]):=by
 refine Enzz λW F w hS=>?_;apply bE6;delta bh bS bk ai;have h1:=Rx now;have h2:=@X4 (f+1) b m j draw;have e:min (max now 0) 1125899906842624=rD now:=by unfold rD;omega
 refine Gn λw hS=>?_;rw[e];refine yh (vs:=[Γ b,Γ m,Γ j]) hS Xh rfl (λi v h=>?_) ?_
 ·match i,h with
  | 0,h=>exact h
  | 1,h=>exact h
  | 2,h=>exact h
  | i+3,h=>simp at h
 refine Gp ?_;refine Cg (bBu b m j (f+1) draw) λw hS=>?_;(exact bw hS)
def bAw(p:Nat)(b m j f u:Int):SP 203 [Δ p] [jK p b m j f u] (bA (.tuple #[]) [jK p b m j 0 0]):=by
 refine Enzz λW F w hS=>?_;apply bE5;delta bS ai;refine Gn λw hS=>?_;(exact bw hS)
def qZ(p:Nat)(b m j f u now:Int):SP 185 [Δ p,Γ now] [jK p b m j f u] (bA (.bool (decide (u<=now))) [jK p b m j f u]):=by
 refine Enzz λW F w hS=>?_;apply bEl;delta bh;refine Gp ?_;(exact bw hS)
def qY(p:Nat)(b m j f u:Int):SP 55 [Δ p] [jK p b m j f u] (bA (Γ f) [jK p b m j f u]):=by
 refine Enzz λW F w hS=>?_;apply bIx;delta bh;refine Gp ?_;(exact bw hS)
def q5(p:Nat)(b m j f u:Int):SP 56 [Δ p] [jK p b m j f u] (bA (Γ u) [jK p b m j f u]):=by
 refine Enzz λW F w hS=>?_;apply bIy;delta bh;refine Gp ?_;(exact bw hS)
def mX:bB:=⟨0,[],[]⟩
def jn(a x:bB):bB:=⟨x.aw,a.ops++x.ops,a.notes++x.notes⟩
def ju(l:List bB):bB:=l.foldl jn mX
structure uM(n:Nat)(x:bB):Prop where
 may:du x=true
 bL:sr n x=true
 ops:x.ops.length<=64
 g_:x.notes.length<=4
def eV:Int->List bB->Prop
 | _,[]=>True
 | b,x::l=>b<x.aw/\eV x.aw l
def eV.mono{b c:Int}(h:c<=b):∀{l:List bB},eV b l->eV c l
 | [],_=>trivial
 | _::_,⟨h1,h2⟩=>⟨by omega,h2⟩
def ir(b:Int)(l:List bB):Int:=l.foldl (λ_ x=>x.aw) b
theorem bnb(b:Int)(l:List bB)(x:bB):ir b (l++[x])=x.aw:=by simp[ir]
def Jr(b:Int)(l l':List bB):ir b (l++l')=ir (ir b l) l':=by simp[ir]
def eV.append{l':List bB}:∀{l:List bB} {b:Int},eV b (l++l')↔eV b l/\eV (ir b l) l'
 | [],b=>⟨λh=>⟨trivial,h⟩,λh=>h.2⟩
 | x::l,b=>by
  show b<x.aw/\eV x.aw (l++l')↔(b<x.aw/\eV x.aw l)/\eV (ir x.aw l) l';rw[eV.append (l:=l) (b:=x.aw)]
  grind
def eV.last{b:Int}:∀{l:List bB},eV b l->b<=ir b l:=λ{l}=>by
 induction l generalizing b with
 | nil=>intro _;exact yyj _
 | cons x l ih=>rintro ⟨h1,h2⟩;have:=ih h2;show b<=ir x.aw l;omega
def eV.snoc{b:Int}{l:List bB}{x:bB}(h:eV b l)(hx:ir b l<x.aw):eV b (l++[x]):=eV.append.2 ⟨h,hx,trivial⟩
structure mF(n:Nat)(a:bB)(k:Nat):Prop where
 l0:0<=a.aw
 l1:a.aw<=1099511627776
 pos:0<k->1<=a.aw
 g_:a.notes.length<=4*k
 JM:∀m∈a.notes,iD m a.aw=true
 len:a.ops.length<=64*k
 ops:∀o∈a.ops,jT o a.aw=true
 mA:∀o∈a.ops,o.table<(n:Int)
def boj{o:fB}{l l':Int}(h:jT o l=true)(hl:l<=l'):jT o l'=true:=by
 grind [jT]
def boi{m:gF}{l l':Int}(h:iD m l=true)(hl:l<=l'):iD m l'=true:=by
 grind [iD]
def uM.iff{n:Nat}{x:bB}(h:uM n x):(1<=x.aw/\x.aw<=1099511627776)/\(∀o∈x.ops,jT o x.aw=true)/\(∀m∈x.notes,iD m x.aw=true)/\∀o∈x.ops,o.table<(n:Int):=by
 obtain⟨⟨h1,h2,_⟩,h3,h4⟩:=nN.1 h.may;have ht:=h.bL
 grind [sr]
def mF.zero(n:Nat):mF n mX 0:=⟨yyj _,by show (0:Int)<=_;decide,λh=>by omega,zzj _,λo h=>(by cases h),zzj _,λo h=>(by cases h),λo h=>(by cases h)⟩
def mF.step{n:Nat}{a x:bB}{k:Nat}(h:mF n a k)(hx:uM n x)(hl:a.aw<x.aw):mF n (jn a x) (k+1):=by
 obtain⟨⟨h1,h2⟩,h3,tO,h4⟩:=hx.iff;have h5:=hx.ops;have h6:=h.len;have h7:=hx.g_;have h8:=h.g_;refine⟨by show 0<=x.aw;omega,h2,λ_=>h1,by show (a.notes++x.notes).length<=_;rw[zza];omega,λm hm=>?_,by show (a.ops++x.ops).length<=_;rw[zza];omega,λo ho=>?_,λo ho=>?_⟩
 ·rcases zz4.1 hm with hm|hm
  ·exact boi (h.JM m hm) (by show a.aw<=x.aw;omega)
  exact tO m hm
 ·rcases zz4.1 ho with ho|ho
  ·exact boj (h.ops o ho) (by show a.aw<=x.aw;omega)
  exact h3 o ho
 rcases zz4.1 ho with ho|ho
 ·exact h.mA o ho
 exact h4 o ho
def bmw(l:List bB)(x:bB):ju (l++[x])=jn (ju l) x:=by simp[ju]
def bmx{l:List bB}{i:Nat}(h:i<l.length):ju (l.take (i+1))=jn (ju (l.take i)) l[i]:=by
 rw[zze h,bmw]
def mF.fold{n:Nat}:∀(l:List bB) {a:bB} {k:Nat},mF n a k->(∀x∈l,uM n x)->eV a.aw l->mF n (l.foldl jn a) (k+l.length)
 | [],a,k,h,_,_=>h
 | x::l,a,k,h,hx,⟨CO,wY⟩=>by
  have:=mF.fold l (h.step (hx x (.head _)) CO) (λy hy=>hx y (.tail _ hy)) wY
  grind
def C7{n:Nat}{l:List bB}(h:∀x∈l,uM n x)(hr:eV 0 l):mF n (ju l) l.length:=by
 have:=mF.fold (n:=n) l (mF.zero n) h hr;rw[yyd]at this
 exact this
def U6(l:List bB):(ju l).aw=ir 0 l:=by
 suffices h:∀(l:List bB) (a:bB),(l.foldl jn a).aw=ir a.aw l from h l mX
 intro l;induction l with
 | nil=>intro a;rfl
 | cons x l ih=>intro a;exact ih (jn a x)
def mF.may{n k:Nat}{a:bB}(h:mF n a k)(hk:0<k)(H9:k<=64):du a=true/\sr n a=true:=by
 have h1:=h.pos hk;have h2:=h.l1;have h3:=h.len;have h4:=h.g_;refine⟨nN.2 ⟨⟨h1,h2,by omega,by omega⟩,h.ops,h.JM⟩,?_⟩;unfold sr;rw[zz7];exact λo ho=>zzm (h.mA o ho)
structure ed where
 k:bO
 L:List bB
 out:Nat
 fh:Int
 eG:Int
 held:bB
 n:Nat
structure cT where
 cap:Nat
 bI:Nat
 b:Int
 m:Int
 j:Int
def ed.ready(s:ed)(now:Int):Bool:=if 0<s.n then decide (s.eG<=now) else decide (0<s.L.length)
def ed.hold(s:ed)(bI:Nat):ed:=if s.n=0 then {s with L:=s.L.drop bI,out:=s.out+min bI s.L.length,held:=ju (s.L.take bI),n:=min bI s.L.length} else s
def ed.hand(c:cT)(s:ed)(now draw:Int):ed × Int × Int:=
 if (s.k.eX s.held).2=0 then ({s with k:=(s.k.eX s.held).1,out:=s.out-oX s.n s.out,fh:=0,eG:=0,held:=mX,n:=0},6,0)
 else if (s.k.eX s.held).2=9 then ({s with k:=(s.k.eX s.held).1,fh:=s.fh+1,eG:=rD now+rj (s.fh+1) c.b c.m c.j draw},7,0)
 else ({s with k:=(s.k.eX s.held).1},0,(s.k.eX s.held).2)
def ed.step(c:cT)(s:ed)(now draw:Int):ed × Int × Int:=if s.ready now=true then (s.hold c.bI).hand c now draw else (s,0,0)
structure oN(c:cT)(bL:Nat)(s:ed)(f:Nat):Prop where
 xW:1<=c.cap
 cap:c.cap<=64
 vC:1<=c.bI
 bI:c.bI<=64
 it:∀x∈s.L,uM bL x
 jf:eV 0 s.L
 room:s.L.length+s.out<=c.cap
 out:s.out=s.n
 held:(s.n=0/\s.held=mX)\/(0<s.n/\mF bL s.held s.n)
 f0:0<=s.fh
 f1:s.fh<=f
def oN.mono{c:cT}{bL f f':Nat}{s:ed}(h:oN c bL s f)(hf:f<=f'):oN c bL s f':=⟨h.xW,h.cap,h.vC,h.bI,h.it,h.jf,h.room,h.out,h.held,h.f0,by have:=h.f1;omega⟩
def eV.take{b:Int}{l:List bB}(h:eV b l)(i:Nat):eV b (l.take i):=(eV.append.1 ((yyf i l).symm▸h:eV b (l.take i++l.drop i))).1
def eV.drop{b:Int}{l:List bB}(h:eV b l)(i:Nat):eV b (l.drop i):=by
 have:=eV.append.1 ((yyf i l).symm▸h:eV b (l.take i++l.drop i));exact this.2.mono this.1.last
def oN.hold{c:cT}{bL f:Nat}{s:ed}(h:oN c bL s f){now:Int}(hr:s.ready now=true):oN c bL (s.hold c.bI) f/\0<(s.hold c.bI).n:=by
 have h1:=h.room;have h2:=h.out;have h3:=h.cap;have h4:=h.vC;unfold ed.hold;by_cases hn:s.n=0
 ·rw[zzc hn];unfold ed.ready at hr;rw[zzb (by omega),zz1]at hr
  have hj:=C7 (n:=bL) (l:=s.L.take c.bI) (λx hx=>h.it x (yyg hx)) (h.jf.take _);rw[zzf]at hj
  refine⟨⟨h.xW,h.cap,h.vC,h.bI,λx hx=>h.it x (uui hx),h.jf.drop _,?_,?_,.inr ⟨?_,hj⟩,h.f0,h.f1⟩,?_⟩
  ·grind
  ·grind
  ·grind
  grind
 grind
structure cX where
 tables:Int
 late:Int
 size:Int
 queue:Int
 chunk:Int
 batch:Int
 base:Int
 bI:Int
 rZ:Int
 every:Int
def mf(c:cX):Ξ:=[Γ c.tables,Γ c.late,Γ c.size,Γ c.queue,Γ c.chunk,Γ c.batch,Γ c.base,Γ c.bI,Γ c.rZ,Γ c.every]
def bda(c:cX):∀v∈mf c,v.oneCell'=true:=by simp[mf,Value.oneCell']
def tC(j:Nat):Int:=([64,128,256,1024]:Ω)[j]!
def aWl{j:Nat}(h:j<4):([Γ 64,Γ 128,Γ 256,Γ 1024]:Ξ)[0+j*1]?=some (Γ (tC j)):=by
 match j,h with
 | 0,_=>rfl
 | 1,_=>rfl
 | 2,_=>rfl
 | 3,_=>rfl
def aWm{j:Nat}(h:j<4):64<=tC j/\tC j<=1024:=by
 match j,h with
 | 0,_=>decide
 | 1,_=>decide
 | 2,_=>decide
 | 3,_=>decide
def BU(c:cX):cX:=
 ⟨1+(md c.tables 4:Int),(md c.late (2 ^ (1+md c.tables 4)):Int),tC (md c.size 4),1+(md c.queue 5:Int),1+(md c.chunk 4:Int),1+(md c.batch 4:Int),1+(md c.base 4:Int),1+(md c.base 4:Int)+(md c.bI 12:Int),(md c.rZ 4:Int),1+(md c.every 8:Int)⟩
def QY{a:Int}{k:IntKind}{n:Nat}{K:Ε->Prop}(hn:n<=60)(hr : -9223372036854775808<=a*2 ^ n/\a*2 ^ n<=9223372036854775807)(h:K (Γ (a*2 ^ n))):zc .shl (Γ a) (.int k (n:Int)) K:=by
 refine⟨Γ (a*2 ^ n),?_,h⟩;have wR:min n 64=n:=xxd (by omega);show (if ((n:Nat):Int)<0 then none else some (Γ (IntKind.i64.wrap (a*2 ^ (min ((n:Nat):Int).toNat 64)))))=_;rw[zzb (by omega),zzw,wR,xx3 _ hr]
def bwy{j:IntKind}{n:Nat}{K:Ε->Prop}(hr:n<=9223372036854775807)(h:K (.int .u64 (n:Int))):zM .u64 (.int j (n:Int)) K:=zT (by rw[show IntKind.u64.wrap (n:Int)=n by rw[ww1];omega];exact h)
def mz(v n:Int):Int:=(md v n.toNat:Int)
def bqc(v n:Int)(h:0<n/\n<=9223372036854775807):SP 6 [Γ v,Γ n] [] (bA (Γ (mz v n)) []):=by
 have:=yc v n.toNat (by omega) (by omega);rw[show ((n.toNat:Nat):Int)=n by omega]at this
 exact this
def bxe{b o len cap sz:Nat}{k:IntKind}{j:Int}{K:Ε->Prop}(h0:0<=j)(hj:j<len)(h:K (.pointer (some ⟨b,o+j.toNat*sz,none⟩))):zl sz (.slice (some ⟨b,o,none⟩) len cap) (.int k j) K:=by
 obtain⟨m,rfl⟩:∃m:Nat,j=m:=⟨j.toNat,by omega⟩;rw[zzw]at h
 exact zI (by omega) h
def aWk{j:Int}(h0:0<=j)(h:j<4):([Γ 64,Γ 128,Γ 256,Γ 1024]:Ξ)[0+j.toNat*1]?=some (Γ (tC j.toNat)):=aWl (by omega)
set_option maxHeartbeats 4000000 in
def qj(c:cX):SP 4 [agg (mf c)] [] (bA (agg (mf (BU c))) []):=by
 refine Enzz λW F w hS=>?_;apply vc4;delta aW bg uO G0 G1 DV G2 G3 G4 G5 G6 ai gC;refine zx hS λcb w hS=>?_;unfold mf at hS;refine Gb λxb w hS=>?_;obtain⟨ct,cl,cs,cq,cc,tA,xX,cm,cj,ce⟩:=c;simp only at hS;have h1:=fy ct 4 (by decide);have h2:=fy cs 4 (by decide);have h3:=fy cq 5 (by decide);have h4:=fy cc 4 (by decide);have h5:=fy tA 4 (by decide);have h6:=fy xX 4 (by decide);have h7:=fy cm 12 (by decide);have h8:=fy cj 4 (by decide);have h9:=fy ce 8 (by decide);have g1:0<=mz ct 4/\mz ct 4<4:=⟨xx5 _,by show (md ct 4:Int)<4;omega⟩;have g2:0<=mz cs 4:=xx5 _;have SO:mz cs 4<((4:Nat):Int):=by show (md cs 4:Int)<4;omega
 have bf3:mz cs 4<4:=SO;have g3:0<=mz cq 5/\mz cq 5<5:=⟨xx5 _,by show (md cq 5:Int)<5;omega⟩;have g4:0<=mz cc 4/\mz cc 4<4:=⟨xx5 _,by show (md cc 4:Int)<4;omega⟩;have g5:0<=mz tA 4/\mz tA 4<4:=⟨xx5 _,by show (md tA 4:Int)<4;omega⟩;refine⟨λus w=>∃yb:Nat,us=[Δ yb]/\SL W (.pt yb [Γ (1+mz ct 4),Γ 0,Γ (tC (mz cs 4).toNat),Γ (1+mz cq 5),Γ (1+mz cc 4),Γ (1+mz tA 4),Γ 0,Γ 0,Γ 0,Γ 0] 23 ::
   .pt xb [Γ 0,Γ 0,Γ 0,Γ 0,Γ 0,Γ 0,Γ 0,Γ 0,Γ 0,Γ 0] 23::.pt cb [Γ ct,Γ cl,Γ cs,Γ cq,Γ cc,Γ tA,Γ xX,Γ cm,Γ cj,Γ ce] 23::F) w,?_,?_⟩
 ·repeat' (first
   | refine Gp ?_
   | refine Gw λw hS=>?_
   | refine Gb λb w hS=>?_
   | ((with_reducible refine yF (bqc _ _ (by decide)) hS (.nil) ?_);clear hS;(rintro v post ⟨rfl,rfl⟩ w hS);(try simp only[app]at hS))
   | (with_reducible refine bxe (by assumption) (by assumption) ?_)
   | (with_reducible refine zV hS (t:=3) Xh (aWk (by assumption) (by assumption)) ?_)
   | with_reducible refine And.intro ?_ ?_
   | exact⟨_,rfl,aR hS⟩)
 clear hS;rintro _ w ⟨yb,bM,hS⟩;cases bM;clear g1 g2 SO bf3 g3 g4 g5;have hS:SL W (.pt yb [Γ (1+(md ct 4:Int)),Γ 0,Γ (tC (md cs 4)),Γ (1+(md cq 5:Int)),Γ (1+(md cc 4:Int)),Γ (1+(md tA 4:Int)),Γ 0,Γ 0,Γ 0,Γ 0] 23::_) w:=hS;refine Gp ?_;rw[show (1:Int)+(md ct 4:Int)=((1+md ct 4:Nat):Int) by omega]at hS ⊢
 refine bwy (by omega) ?_;have hp:2 ^ (1+md ct 4)<=16:=vvu (by decide) (show 1+md ct 4<=4 by omega);have vr:0<2 ^ (1+md ct 4):=Nat.pow_pos (by decide);have Ua:(1:Int)*2 ^ (1+md ct 4)=((2 ^ (1+md ct 4):Nat):Int):=by simp
 refine QY (by omega) (by rw[Ua];omega) ?_;rw[Ua];have mU:=fy cl (2 ^ (1+md ct 4)) vr;have e:BU ⟨ct,cl,cs,cq,cc,tA,xX,cm,cj,ce⟩=⟨((1+md ct 4:Nat):Int),(md cl (2 ^ (1+md ct 4)):Int),tC (md cs 4),1+(md cq 5:Int),1+(md cc 4:Int),1+(md tA 4:Int),1+(md xX 4:Int),1+(md xX 4:Int)+(md cm 12:Int),(md cj 4:Int),1+(md ce 8:Int)⟩:=by
  unfold BU;simp only;rw[show (1:Int)+(md ct 4:Int)=((1+md ct 4:Nat):Int) by omega]
 rw[e];generalize hP:2 ^ (1+md ct 4)=P at *
 refine Cg (yc cl P vr (by omega)) λw hS=>?_;refine Cg (zP xX 4 (by decide) (by decide)) λw hS=>?_;refine Cg (zP cm 12 (by decide) (by decide)) λw hS=>?_;refine Cg (zP cj 4 (by decide) (by decide)) λw hS=>?_;refine Cg (zP ce 8 (by decide) (by decide)) λw hS=>?_;(exact bw hS)
structure CC(c:cX)(k:cT)(n:Nat):Prop where
 n1:1<=n
 n8:n<=8
 tables:c.tables=n
 U9:0<=c.late
 U':c.late<2 ^ n
 s0:64<=c.size
 s1:c.size<=65536
 queue:c.queue=k.cap
 q1:1<=k.cap
 Dl:k.cap<=64
 c1:1<=c.chunk
 we:c.chunk<=64
 batch:c.batch=k.bI
 b1:1<=k.bI
 He:k.bI<=64
 base:c.base=k.b
 cm:c.bI=k.m
 UY:c.rZ=k.j
 may:pw k.b k.m k.j
 e1:1<=c.every
 e2:c.every<=1073741824
structure bq where
 s:ed
 k:bQ
 m:cI
 dr:cH
 q:List bD
 pos:Int
 due:Int
 last:Int
 cE:Ω
 now:Int
def bq.src(c:bq):bQ:={c.k with d:=c.s.k.d}
def bq.jg(c:bq)(k:bQ):bq:={c with k:=k,s:={c.s with k:={c.s.k with d:=k.d}}}
def bq.kR(cf:cX)(c:bq):eD:=⟨c.src,c.m,c.dr,cf.chunk⟩
def bq.Ga(c:bq)(p:eD):bq:={c.jg p.k with m:=p.m,dr:=p.d}
def bq.j8(kc:cT)(c:bq):Nat:=kc.cap-c.s.L.length-c.s.out
def bq.head(c:bq):Int:=bH c.k.g.bf
def bq.en(kc:cT)(c:bq)(comp:Int):Bool:=
 if c.s.k.d.off=true then false
 else if comp=0 then decide (c.pos<c.head/\c.q.length<kc.cap)
 else if comp=1 then (match c.q with
  | []=>false
  | t::_=>decide (0<c.j8 kc) && !(c.m.bz.waits t.kind t.mark))
 else if comp=2 then Dm c.m
 else if comp=3 then c.s.ready c.now
 else if comp=4 then decide (c.due<=c.now/\(c.m.at_<=c.last\/0<c.j8 kc))
 else false
structure pz where
 err:Int
 aw:Int
 il:Int
deriving DecidableEq
def Aa(t:pz):Ξ:=[Γ t.err,Γ t.aw,Γ t.il]
def bq.put(c:bq)(x:bB):bq:={c with s:={c.s with L:=c.s.L++[x]}}
def bq.read(c:bq):bq × pz:=match c.src.gA (c.pos+1) with
 | .error e=>(c,⟨e,0,0⟩)
 | .ok t=>({c with q:=c.q++[t],pos:=c.pos+1},⟨0,0,1⟩)
def bq.Bf(c:bq)(x:bB):bq:=if 0<x.ops.length+x.notes.length then {c.put x with last:=max c.last x.aw} else c
def bq.take(c:bq):bq × pz:=match c.q with
 | []=>(c,⟨0,0,0⟩)
 | t::q=>let r:=c.m.take t;(({c with q:=q,m:=r.1}:bq).Bf r.2.1,⟨0,0,2⟩)
def bq.draw(c:bq):Int:=c.cE.headD 0
def bq.write(kc:cT)(c:bq):bq × pz:=
 let r:=c.s.step kc c.now c.draw
 ({c with s:=r.1,cE:=if r.2.1=7 then c.cE.tail else c.cE},⟨r.2.2,0,r.2.1⟩)
def iM(every now:Int):Int:=min (max now 0) 1125899906842624+every
def bq.tell(cf:cX)(c:bq):bq × pz:=
 if c.m.at_<=c.last then ({c with due:=iM cf.every c.now},⟨0,0,9⟩)
 else ({c.put ⟨c.m.at_,[],[]⟩ with due:=iM cf.every c.now,last:=c.m.at_},⟨0,0,8⟩)
def bq.snap(cf:cX)(c:bq):bq × pz:=let r:=(c.kR cf).step;(c.Ga r.1,⟨r.2.2,0,r.2.1⟩)
def bq.pick(cf:cX)(kc:cT)(c:bq)(comp:Int):bq × pz:=
 if comp<0\/5<=comp then (c,⟨1,0,0⟩)
 else if c.en kc comp=false then (c,⟨0,0,0⟩)
 else if comp=0 then c.read
 else if comp=1 then c.take
 else if comp=2 then c.snap cf
 else if comp=3 then c.write kc
 else c.tell cf
def bq.fault(c:bq)(f:eK):bq × Int:=
 if fI f=false then (c,1)
 else if 1024<=c.s.k.plan.length then (c,7)
 else ({c with s:={c.s with k:={c.s.k with plan:=c.s.k.plan++[f]}}},0)
def bq.tick(c:bq)(n:Int):bq × Int:=
 if n<1\/1073741824<n then (c,1) else if 1125899906842624<c.now+n then (c,7) else ({c with now:=c.now+n},0)
def bq.drawn(c:bq)(x:Int):bq × Int:=
 if x<0\/1125899906842624<x then (c,1) else if 1024<=c.cE.length then (c,7) else ({c with cE:=c.cE++[x]},0)
def bq.wa(c:bq)(x:Int):bq × Int:=
 if x<0\/1073741824<x then (c,1) else ({c with s:={c.s with k:={c.s.k with d:=c.s.k.d.pC x}}},0)
def bq.trim(c:bq):bq × Int:=let r:=c.src.gB c.s.k.aw;(c.jg r.1,r.2)
def bq.start(cf:cX)(k:bQ)(sk:bO)(now:Int):bq:=
 ⟨⟨sk,[],0,0,0,mX,0⟩,k,⟨cf.tables,cf.late,sk.aw,sk.reqs,l6 cf.chunk⟩,wk,[],sk.aw,iM cf.every now,sk.aw,[],now⟩
def V7(cf:cX)(d:DS)(now:Int):DS × Except Int bq:=match kx d cf.tables cf.size with
 | (d1,.error e)=>(d1,.error e)
 | (_,.ok k)=>match jH k.d cf.tables cf.size with
  | (d2,.error e)=>(d2,.error e)
  | (_,.ok sk)=>(sk.d,.ok (bq.start cf k sk now))
def bq.dB(cf:cX)(c:bq)(keep:Ω):bq:=match V7 cf (c.s.k.d.dB keep) c.now with
 | (_,.ok c')=>c'
 | (_,.error _)=>c
def bq.other(cf:cX)(c:bq)(s:cx):bq × Int:=
 if s.kind=3 then c.fault s.ft
 else if s.kind=4 then c.tick s.n
 else if s.kind=5 then c.drawn s.n
 else if s.kind=6 then c.trim
 else if s.kind=7 then c.wa s.n
 else if s.kind=8 then (c.dB cf s.keep,0)
 else (c,1)
def bq.ny(c:bq)(s:cx):bq × pz:=let r:=c.src.nz s.sg s.l;(c.jg r.1,⟨r.2.2,r.2.1,0⟩)
def bq.fM(cf:cX)(kc:cT)(c:bq)(s:cx):bq × pz:=
 if c.s.k.d.off=true/\s.kind≠8 then (c,⟨8,0,0⟩)
 else if s.kind=1 then c.ny s
 else if s.kind=2 then c.pick cf kc s.n
 else ((c.other cf s).1,⟨(c.other cf s).2,0,0⟩)
structure K5 where
 aw:Int
 head:Int
 low:Int
 clock:Int
 at_:Int
 pos:Int
 read:Int
 bu0:Int
 held:Int
 j8:Int
 bz:Int
 rows:Int
 fh:Int
 eG:Int
 due:Int
 down:Bool
deriving DecidableEq
def HF(l:K5):Ξ:=[Γ l.aw,Γ l.head,Γ l.low,Γ l.clock,Γ l.at_,Γ l.pos,Γ l.read,Γ l.bu0,Γ l.held,Γ l.j8,Γ l.bz,Γ l.rows,Γ l.fh,Γ l.eG,Γ l.due,.bool l.down]
def bq.look(kc:cT)(c:bq):K5:=
 ⟨c.s.k.aw,c.head,dH c.k.g.bf,c.now,c.m.at_,c.pos,c.q.length,c.s.L.length,c.s.out,(c.j8 kc:Nat),c.m.bz.state,c.m.bz.rows.length,c.s.fh,c.s.eG,c.due,c.s.k.d.off⟩
def jV(l:List bB):List gF:=(l.map (·.notes)).flatten
def bqv(l l':List bB):jV (l++l')=jV l++jV l':=by simp[jV]
def U7(l:List bB):(ju l).notes=jV l:=by
 suffices h:∀(l:List bB) (a:bB),(l.foldl jn a).notes=a.notes++jV l from h l mX
 intro l;induction l with
 | nil=>intro a;simp[jV]
 | cons x l ih=>intro a;rw[xxo,ih];simp[jn,jV]
theorem U8{l:List bB}(h:l≠[])(b b':Int):ir b l=ir b' l:=by
 cases l with
 | nil=>exact absurd rfl h
 | cons x l=>rfl
structure th(n:Nat)(x:bB):Prop where
 w:uM n x
 nt:∀m∈x.notes,m.kind≠2->m.table<(n:Int)
structure iY(kc:cT)(n:Nat)(s:ed)(hd:List bB)(last:Int)(R:List Rq)(f:Nat):Prop where
 it:∀x∈hd++s.L,th n x
 jf:eV 0 (hd++s.L)
 le:ir 0 (hd++s.L)<=last
 hn:hd.length=s.n
 held:s.held=ju hd
 room:s.L.length+s.out<=kc.cap
 out:s.out=s.n
 l0:0<=s.k.aw
 aw:s.k.aw<=last
 st:(eV s.k.aw (hd++s.L)/\fE s.k.reqs (jV (hd++s.L))=some R)\/(hd≠[]/\s.k.aw=ir 0 hd/\fE s.k.reqs (jV s.L)=some R)
 f0:0<=s.fh
 f1:s.fh<=f
def iY.mono{kc:cT}{n:Nat}{s:ed}{hd:List bB}{last:Int}{R:List Rq}{f f':Nat}(h:iY kc n s hd last R f)(hf:f<=f'):iY kc n s hd last R f':=⟨h.it,h.jf,h.le,h.hn,h.held,h.room,h.out,h.l0,h.aw,h.st,h.f0,by have:=h.f1;omega⟩
def iY.inv{kc:cT}{n:Nat}{s:ed}{hd:List bB}{last:Int}{R:List Rq}{f:Nat}(h:iY kc n s hd last R f){cf:cX}(hc:CC cf kc n):oN kc n s f:=by
 have h1:=eV.append.1 h.jf;refine⟨hc.q1,hc.Dl,hc.b1,hc.He,λx hx=>(h.it x (xxl _ hx)).w,h1.2.mono h1.1.last,h.room,h.out,?_,h.f0,h.f1⟩;have hn:=h.hn;by_cases h0:s.n=0
 ·have:hd=[]:=yys.1 (by omega);subst this;exact .inl ⟨h0,h.held⟩
 have:=C7 (n:=n) (l:=hd) (λx hx=>(h.it x (yyr _ hx)).w) h1.1;rw[hn,<- h.held]at this
 grind
def iY.put{kc:cT}{n:Nat}{s:ed}{hd:List bB}{last:Int}{R R':List Rq}{f:Nat}(h:iY kc n s hd last R f){x:bB}(hx:th n x)(hl:last<x.aw)(hR:fE R x.notes=some R')(hr:s.L.length+s.out<kc.cap):iY kc n {s with L:=s.L++[x]} hd x.aw R' f:=by
 have hle:=h.le;have kF:=h.aw;have bL8:∀A:List bB,jV (A++[x])=jV A++x.notes:=λA=>by simp[jV]
 have e:hd++(s.L++[x])=(hd++s.L)++[x]:=(zzg _ _ _).symm;refine⟨λy hy=>?_,?_,?_,h.hn,h.held,?_,h.out,h.l0,by show s.k.aw<=x.aw;omega,?_,h.f0,h.f1⟩
 ·have hy:y∈hd++(s.L++[x]):=hy;rw[e]at hy
  rcases zz4.1 hy with hy|hy
  ·exact h.it y hy
  grind
 ·show eV 0 (hd++(s.L++[x]));rw[e];exact h.jf.snoc (by omega)
 ·grind [bnb]
 ·grind
 rcases h.st with ⟨a,b⟩|⟨a,b,c⟩
 ·refine .inl ⟨?_,?_⟩
  ·show eV s.k.aw (hd++(s.L++[x]));rw[e];refine a.snoc ?_;by_cases hn:hd++s.L=[]
   ·rw[hn];show s.k.aw<x.aw;omega
   grind [U8]
  grind [Dg]
 grind [Dg]
def iY.hold{kc:cT}{n:Nat}{s:ed}{hd:List bB}{last:Int}{R:List Rq}{f:Nat}(h:iY kc n s hd last R f)(h1:1<=kc.bI){now:Int}(hr:s.ready now=true):
  ∃ml,iY kc n (s.hold kc.bI) ml last R f/\ml≠[]/\(s.hold kc.bI).k=s.k/\(s.hold kc.bI).fh=s.fh/\(s.hold kc.bI).eG=s.eG:=by
 have hn:=h.hn;have IZ:=h.room;have T9:=h.out;unfold ed.ready at hr;unfold ed.hold;by_cases h0:s.n=0
 ·rw[zzc h0];rw[zzb (by omega),zz1]at hr
  have vm:hd=[]:=yys.1 (by omega);subst vm;have e:s.L.take kc.bI++s.L.drop kc.bI=[]++s.L:=by simp
  refine⟨s.L.take kc.bI,⟨by show ∀x∈s.L.take kc.bI++s.L.drop kc.bI,_;rw[e];exact h.it,by show eV 0 (s.L.take kc.bI++s.L.drop kc.bI);rw[e];exact h.jf,by show ir 0 (s.L.take kc.bI++s.L.drop kc.bI)<=last;rw[e];exact h.le,by show (s.L.take kc.bI).length=min kc.bI s.L.length;rw[zzf],rfl,?_,?_,h.l0,h.aw,.inl ?_,h.f0,h.f1⟩,λhh=>?_,rfl,rfl,rfl⟩
  ·grind
  ·grind
  ·show eV s.k.aw (s.L.take kc.bI++s.L.drop kc.bI)/\fE s.k.reqs (jV (s.L.take kc.bI++s.L.drop kc.bI))=some R;rw[e];rcases h.st with a|⟨a,_⟩
   ·exact a
   grind
  grind
 grind
def iY.fits{kc:cT}{n:Nat}{s:ed}{hd:List bB}{last:Int}{R:List Rq}{f:Nat}(h:iY kc n s hd last R f){cf:cX}(hc:CC cf kc n)(cY:hd≠[]):
  du s.held=true/\s.held.aw=ir 0 hd/\∃L,(s.k.aw<s.held.aw->fj n s.k.reqs s.held=some L/\fE L (jV s.L)=some R)/\(¬s.k.aw<s.held.aw->s.k.aw=ir 0 hd/\fE s.k.reqs (jV s.L)=some R):=by
 have h1:=eV.append.1 h.jf;have hJ:=C7 (n:=n) (l:=hd) (λx hx=>(h.it x (yyr _ hx)).w) h1.1;have hp:0<hd.length:=wwz.2 cY;have hn:=h.hn;have IZ:=h.room;have T9:=h.out;have hq:=hc.Dl;obtain⟨hm,ht⟩:=hJ.may hp (by omega);have hl:s.held.aw=ir 0 hd:=by rw[h.held,U6]
 rw[<- h.held]at hm ht
 refine⟨hm,hl,?_⟩;rcases h.st with ⟨a,b⟩|⟨_,a,b⟩
 ·rw[bqv]at b
  obtain⟨L,b1,b2⟩:=bqw b;have b9:s.k.aw<s.held.aw:=by
   rw[hl];have:=(eV.append.1 a).1;cases hd with
   | nil=>exact absurd rfl cY
   | cons x l=>have h2:=this.2.last;have h3:=this.1;show s.k.aw<ir x.aw l;omega
  refine⟨L,λ_=>⟨?_,b2⟩,λhh=>absurd b9 hh⟩;unfold fj;rw[zzc ⟨hm,ht⟩,h.held,U7];exact b1
 grind
def iY.done{kc:cT}{n:Nat}{s:ed}{hd:List bB}{last:Int}{R:List Rq}{f:Nat}(h:iY kc n s hd last R f){k':bO}(hl:k'.aw=ir 0 hd)(hR:fE k'.reqs (jV s.L)=some R):iY kc n {s with k:=k',out:=s.out-oX s.n s.out,fh:=0,eG:=0,held:=mX,n:=0} [] last R f:=by
 have h1:=eV.append.1 h.jf;have hle:=h.le;have kF:=h.aw;have pR:=h.l0;have IZ:=h.room;have T9:=h.out;have h2:=h1.1.last;have h3:=h1.2.last;rw[Jr]at hle
 have hg:oX s.n s.out=s.n:=by unfold oX;omega
 have mn:ir 0 ([]++s.L)<=last:=by
  rw[zzo];by_cases hL:s.L=[]
  ·rw[hL];show (0:Int)<=last;omega
  grind [U8]
 refine⟨λx hx=>h.it x (xxl _ hx),h1.2.mono h2,mn,rfl,rfl,?_,?_,?_,?_,.inl ⟨?_,hR⟩,yyj _,by show (0:Int)<=(f:Int);omega⟩
 ·grind
 ·grind
 ·grind
 ·grind
 grind
def iY.again{kc:cT}{n:Nat}{s:ed}{hd:List bB}{last:Int}{R:List Rq}{f:Nat}(h:iY kc n s hd last R f)(cY:hd≠[]){k':bO}(hk:(k'.aw=s.k.aw/\k'.reqs=s.k.reqs)\/(k'.aw=ir 0 hd/\fE k'.reqs (jV s.L)=some R))(eG:Int):iY kc n {s with k:=k',fh:=s.fh+1,eG:=eG} hd last R (f+1):=by
 have h1:=eV.append.1 h.jf;have hle:=h.le;have h2:=h1.1.last;have h3:=h1.2.last;have tS:=h.f0;have Aq:=h.f1;rw[Jr]at hle
 refine⟨h.it,h.jf,h.le,h.hn,h.held,h.room,h.out,?_,?_,?_,by show 0<=s.fh+1;omega,by show s.fh+1<=((f+1:Nat):Int);omega⟩
 ·show 0<=k'.aw;rcases hk with ⟨e,_⟩|⟨e,_⟩
  ·rw[e];exact h.l0
  grind
 ·show k'.aw<=last;rcases hk with ⟨e,_⟩|⟨e,_⟩
  ·rw[e];exact h.aw
  rw[e];omega
 show (eV k'.aw (hd++s.L)/\fE k'.reqs (jV (hd++s.L))=some R)\/(hd≠[]/\k'.aw=ir 0 hd/\fE k'.reqs (jV s.L)=some R);rcases hk with ⟨e1,e2⟩|⟨e1,e2⟩
 ·rw[e1,e2];exact h.st
 grind
structure iZ(n:Nat)(ch:Int)(w:cL):Prop where
 nn:w.n=ch
 st:0<=w.state/\w.state<=4
 rows:∀r∈w.rows,so r
 len:w.rows.length<=64
 after:0<=w.after/\w.after<=1099511627776
 cur:0<=w.cG/\w.cG<=1099511627776
 id:0<=w.id/\w.id<=64
 live:w.state≠0->(0<=w.table/\w.table<(n:Int))/\1<=w.id/\1<=w.mark/\w.mark<=1099511627776
def iZ.l6(n:Nat)(ch:Int):iZ n ch (l6 ch):=⟨rfl,⟨yyj _,show (0:Int)<=4 by decide⟩,λr hr=>(by cases hr),zz6 _,⟨yyj _,show (0:Int)<=1099511627776 by decide⟩,⟨yyj _,show (0:Int)<=1099511627776 by decide⟩,⟨yyj _,show (0:Int)<=64 by decide⟩,λh=>absurd rfl h⟩
def iZ.ta{n:Nat}{ch:Int}{w:cL}(h:iZ n ch w){mark id table after:Int}(ht:table<(n:Int)):iZ n ch (w.ta mark id table after):=by
 unfold cL.ta;split
 ·exact h
 rename_i hb;unfold cL.xw at hb;exact⟨h.nn,⟨show (0:Int)<=1 by decide,show (1:Int)<=4 by decide⟩,λr hr=>(by cases hr),zz6 _,⟨by show 0<=after;omega,by show after<=_;omega⟩,⟨yyj _,show (0:Int)<=1099511627776 by decide⟩,⟨by show 0<=id;omega,by show id<=64;omega⟩,λ_=>⟨⟨by show 0<=table;omega,ht⟩,by show 1<=id;omega,by show 1<=mark;omega,by show mark<=_;omega⟩⟩
def br9{after:Int}{C:List Row}(ha:0<=after/\after<=1099511627776)(h:∀r∈C,so r):0<=ky after C/\ky after C<=1099511627776:=by
 unfold ky;cases hl:C.getLast? with
 | none=>exact ha
 | some r=>
  have:=h r (wwl hl)
  grind [so]
def iZ.fill{n:Nat}{ch:Int}{w:cL}(h:iZ n ch w)(H9:ch<=64){C:List Row}(hC:∀r∈C,so r):iZ n ch (w.fill C):=by
 unfold cL.fill;split
 ·exact h
 rename_i hb;unfold cL.wz at hb;have hn:=h.nn;exact⟨h.nn,⟨show (0:Int)<=2 by decide,show (2:Int)<=4 by decide⟩,hC,by show C.length<=64;omega,h.after,br9 h.after hC,h.id,λ_=>h.live (by omega)⟩
def iZ.shut{n:Nat}{ch:Int}{w:cL}(h:iZ n ch w):iZ n ch w.shut:=by
 unfold cL.shut;split
 ·exact⟨h.nn,⟨show (0:Int)<=3 by decide,show (3:Int)<=4 by decide⟩,h.rows,h.len,h.after,h.cur,h.id,λ_=>h.live (by omega)⟩
 exact h
def iZ.low{n:Nat}{ch:Int}{w:cL}(h:iZ n ch w)(mark:Int):iZ n ch (w.low mark):=by
 unfold cL.low;split
 ·rename_i hs;exact⟨h.nn,⟨show (0:Int)<=4 by decide,yyj _⟩,h.rows,h.len,h.after,h.cur,h.id,λ_=>h.live (by omega)⟩
 exact h
def iZ.p_{n:Nat}{ch:Int}{w:cL}(h:iZ n ch w)(l:List da):iZ n ch (w.p_ l):=by
 unfold cL.p_;split
 ·exact⟨h.nn,h.st,λr hr=>h.rows r (yy0.1 hr).1,yy1 (yy7 _ _) h.len,h.after,h.cur,h.id,h.live⟩
 exact h
structure xK(n:Nat)(ch:Int)(m:cI):Prop where
 mA:m.tables=n
 lF:0<=m.at_
 oQ:m.at_<=1099511627776
 may:fq m.reqs
 rq:∀r∈m.reqs,r.table<(n:Int)/\r.at_<=m.at_
 bz:iZ n ch m.bz
def PS{L L':List Rq}{t w a:Int}(h:oO L t w a=some L'):L'=L++[xu L t w a]/\1<=L'.length/\L'.length<=64/\0<=t/\t<8/\1<=w/\w<=8/\1<=a:=by
 have hM:=BL h;have he:L'=L++[xu L t w a]:=by
  grind [oO]
 have hl:L'.length=L.length+1:=by rw[he];simp
 have h1:=(hM.2 L.length (by omega)).1;have e:L'[L.length]=xu L t w a:=by simp[he]
 rw[e]at h1
 unfold vF xu at h1;exact⟨he,by omega,hM.1,h1.2.1,h1.2.2.1,h1.2.2.2.1,h1.2.2.2.2.1,h1.2.2.2.2.2.1⟩
theorem Rv{L L':List Rq}{id c:Int}{dn:Bool}(h:lG L id c dn=some L'):∀r∈L',∃r0∈L,r.table=r0.table/\r.at_=r0.at_:=by
 unfold lG at h;split at h
 ·split at h
  ·rename_i r0 vv;split at h
   ·cases h
   cases h;intro r hr;obtain⟨j,hj,rfl⟩:=yyh hr;rw[xx8];obtain⟨sY,e0⟩:=zzh.1 vv;split
   ·exact⟨r0,by rw[<- e0];exact zzk _,rfl,rfl⟩
   rw[yyl]at hj
   exact⟨_,zzk hj,rfl,rfl⟩
  cases h
 cases h
def aF4{m:cI}{n:Nat}(ht:m.tables=n){aw:Int}(l1:1<=aw)(s:Η):
  fE m.reqs (m.accept s aw).2=some (m.accept s aw).1/\(m.accept s aw).2.length<=1/\(∀x∈(m.accept s aw).2,iD x aw=true/\x.table<(n:Int))/\∀r∈(m.accept s aw).1,r∈m.reqs\/(r.table<(n:Int)/\r.at_=aw):=by
 unfold cI.accept;split
 ·exact⟨rfl,zz6 _,λx hx=>(by cases hx),λr hr=>.inl hr⟩
 split
 ·exact⟨rfl,zz6 _,λx hx=>(by cases hx),λr hr=>.inl hr⟩
 split
 ·exact⟨rfl,zz6 _,λx hx=>(by cases hx),λr hr=>.inl hr⟩
 rename_i g _ s4 _ L hL;obtain⟨e,a1,a2,a3,a4,a5,a6,a7⟩:=PS hL;refine⟨?_,zzj _,λx hx=>?_,λr hr=>?_⟩
 ·grind [fE,nO]
 ·rw[zz8.1 hx];refine⟨C_.2 ⟨by show (1:Int)<=L.length;omega,by show (L.length:Int)<=64;omega,.inl ⟨rfl,a3,a4,a5,a6,l1,yyj _,rfl,rfl⟩⟩,by show g.1<(n:Int);omega⟩
 simp only at hr;rw[e]at hr
 rcases zz4.1 hr with hr|hr
 ·exact .inl hr
 rw[zz8.1 hr];exact .inr ⟨by show g.1<(n:Int);omega,rfl⟩
def PU{n:Nat}{aw:Int}(l1:1<=aw):∀(sg:Ψ) {m:cI},m.tables=n ->
  fE m.reqs (m.eg aw sg).2=some (m.eg aw sg).1.reqs/\(m.eg aw sg).2.length<=sg.length/\(∀x∈(m.eg aw sg).2,iD x aw=true/\x.table<(n:Int))/\∀r∈(m.eg aw sg).1.reqs,r∈m.reqs\/(r.table<(n:Int)/\r.at_=aw)
 | [],m,_=>⟨rfl,zzj _,λx hx=>(by cases hx),λr hr=>.inl hr⟩
 | s::sg,m,ht=>by
  obtain⟨a1,a2,a3,a4⟩:=aF4 ht l1 s;obtain⟨b1,b2,b3,b4⟩:=PU l1 sg (m:={m with reqs:=(m.accept s aw).1}) ht
  grind [cI.eg,Dg]
def FG{aw:Int}{ops:List fB}{notes:List gF}(h1:1<=aw/\aw<=1099511627776)(h2:ops.length<=64)(h3:notes.length<=4)(ho:∀o∈ops,jT o aw=true)(hn:∀m∈notes,iD m aw=true):du ⟨aw,ops,notes⟩=true:=
 nN.2 ⟨⟨h1.1,h1.2,by show ops.length<=4096;omega,by show notes.length<=256;omega⟩,ho,hn⟩
def Kw{n:Nat}{x:bB}(h:∀o∈x.ops,o.table<(n:Int)):sr n x=true:=by
 grind [sr]
def th.empty{n:Nat}{aw:Int}(h:1<=aw/\aw<=1099511627776):th n ⟨aw,[],[]⟩:=⟨⟨FG h (zz6 _) (zz6 _) (λo ho=>by cases ho) (λo ho=>by cases ho),rfl,zz6 _,zz6 _⟩,λm hm=>by cases hm⟩
structure TkM(n:Nat)(ch:Int)(m:cI)(t:bD)(m':cI)(x:bB):Prop where
 ok:xK n ch m'
 at_:m'.at_=t.aw
 late:m'.late=m.late
 aw:x.aw=t.aw
 it:th n x
 nr:fE m.reqs x.notes=some m'.reqs
def xK.take{n:Nat}{ch:Int}{m:cI}(h:xK n ch m){t:bD}(hm:c_ t=true)(hl:t.aw=m.at_+1)(hw:m.bz.waits t.kind t.mark=false)(n8:n<=8):(m.take t).2.2=0/\TkM n ch m t (m.take t).1 (m.take t).2.1:=by
 obtain⟨h1,h2,h3,h4,h5,h6,h7⟩:=kr hm;have gx:=h.lF;unfold cI.take;rw[zzb (by rw[hm];decide),zzb (by rw[hw];rintro (h|h);exact h hl;cases h)];have mq:∀r∈m.reqs,r.table<(n:Int)/\r.at_<=t.aw:=λr hr=>by have:=h.rq r hr;exact⟨this.1,by omega⟩
 split
 ·refine⟨rfl,?_⟩;simp only;unfold cI.xY;simp only;obtain⟨_,a2,a3,a4,a5,a6⟩:=G9 t.aw t.signals {m with at_:=t.aw};obtain⟨b1,b2,b3,b4⟩:=PU (n:=n) h1.1 t.signals (m:={m with at_:=t.aw}) h.mA;generalize ({m with at_:=t.aw}:cI).eg t.aw t.signals=y at *
  refine⟨⟨a4.trans h.mA,by rw[a6];exact (by omega:0<=t.aw),by rw[a6];exact h1.2,a2 h.may,λr hr=>?_,?_⟩,a6,a5,rfl,⟨⟨?_,?_,?_,?_⟩,λx hx _=>(b3 x hx).2⟩,b1⟩
  ·grind
  ·show iZ n ch (y.1.bz.p_ t.changes);rw[a3];exact h.bz.p_ _
  ·have dY:(lV y.1 t.aw t.changes).length<=16:=by
    grind [lV]
   refine FG h1 (by omega) (by omega) (λo ho=>?_) λx hx=>(b3 x hx).1;unfold lV at ho;obtain⟨c,hc,rfl⟩:=zz5.1 ho;have:=uq.1 (h6 c (yy0.1 hc).1);exact Da.2 ⟨h1.1,yyj _,this⟩
  ·refine Kw λo ho=>?_;have ho:o∈lV y.1 t.aw t.changes:=ho;unfold lV at ho;obtain⟨c,hc,rfl⟩:=zz5.1 ho;have om:=(yy0.1 hc).2;unfold cI.captured at om;rw[zzs,zz1,a4]at om
   have Tu:c.table<m.tables:=om.1.2;have ht:=h.mA
   grind
  ·grind [lV]
  grind
 split
 ·refine⟨rfl,?_⟩;simp only;unfold cI.high;simp only;unfold cL.high;split
  ·rename_i hx;split at hx
   ·cases hx;exact⟨⟨h.mA,by show 0<=t.aw;omega,h1.2,h.may,mq,h.bz⟩,rfl,rfl,rfl,th.empty h1,rfl⟩
   cases hx
  rename_i w x hx;split at hx
  ·cases hx
  rename_i hb;cases hx;unfold cL.tW at hb;have hs:m.bz.state=4:=by omega
  obtain⟨⟨v1,v2⟩,v3,v4,v5⟩:=h.bz.live (by omega);have hid:=h.bz.id;have Tv:=h.bz.cur;have hlen:=h.bz.len;have cZ:∀o∈jv m.bz t.aw,jT o t.aw=true/\o.table<(n:Int):=λo ho=>by
   unfold jv at ho;obtain⟨r,hr,rfl⟩:=zz5.1 ho;have:=h.bz.rows r hr;unfold so at this;exact⟨Da.2 ⟨h1.1,yyj _,v1,by show m.bz.table<8;omega,this.1,this.2.1,this.2.2,λhh=>by cases hh⟩,v2⟩
  have wW:(jv m.bz t.aw).length<=64:=by unfold jv;rw[zzv];exact hlen
  have hn:iD (vE m.bz) t.aw=true:=C_.2 ⟨v3,hid.2,.inr ⟨rfl,rfl,rfl,rfl,Tv.1,Tv.2⟩⟩;have Uv:iZ n ch (l6 m.bz.n):=by rw[h.bz.nn];exact iZ.l6 n ch
  split
  ·refine⟨⟨h.mA,by show 0<=t.aw;omega,h1.2,h.may,mq,Uv⟩,rfl,rfl,rfl,⟨⟨FG h1 wW (zz6 _) (λo ho=>(cZ o ho).1) (λo ho=>by cases ho),Kw λo ho=>(cZ o ho).2,wW,zz6 _⟩,λx hx=>by cases hx⟩,rfl⟩
  rename_i L hL;refine⟨⟨h.mA,by show 0<=t.aw;omega,h1.2,D6 hL,λr hr=>?_,Uv⟩,rfl,rfl,rfl,⟨⟨FG h1 wW (by show 1<=4;decide) (λo ho=>(cZ o ho).1) (λo ho=>by rw[zz8.1 ho];exact hn),Kw λo ho=>(cZ o ho).2,wW,by show 1<=4;decide⟩,λx hx hk=>?_⟩,?_⟩
  ·grind [Rv]
  ·rw[zz8.1 hx]at hk
   exact absurd rfl hk
  grind [fE,vE,nO]
 refine⟨rfl,⟨h.mA,by show 0<=t.aw;omega,h1.2,h.may,mq,h.bz.low _⟩,rfl,rfl,rfl,th.empty h1,rfl⟩
