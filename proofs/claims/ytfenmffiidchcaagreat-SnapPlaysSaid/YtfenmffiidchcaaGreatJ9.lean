/-
  Texts of the proof, joined: SlIns, IdxS, WalS, WalS2, TabS, Sl4K, TabF, TxnS, TxnE, TxnDec, ImgS, ImgD, RLogM, WalS3, WalS4, WalS5, WalS6, WalS7, WalS8, WalS9, WalSA, WalSB, SrcS, SrcS2, FoldS, RefFF, Law06, SrcQ.
-/
import Derived.Test.YtfenmffiidchcaaGreatJ8
import Derived.Test.YtfenmffiidchcaaGreatQVcI
import Derived.Lib.Overlaps
import Derived.Lib.AppendZerosOnto
import Derived.Test.YtfenmffiidchcaaGreatQVcG
import Derived.Test.YtfenmffiidchcaaGreatQVcL
import Derived.Test.YtfenmffiidchcaaGreatQTab
import Derived.Test.YtfenmffiidchcaaGreatQVcX
import Derived.Test.YtfenmffiidchcaaGreatQVcA
import Derived.Test.YtfenmffiidchcaaGreatQVcC
import Derived.Test.YtfenmffiidchcaaGreatQVcF
namespace Go.Proofs.YtfenmffiidchcaaGreat
set_option linter.unusedVariables false
set_option maxRecDepth 100000
open Go.RowKit
def ow(b:Nat)(cs:List Value)(t:TypeId):zE:=λh=>h=bw.one b (.cells cs.toArray t (0,0))
section
variable {W w:World} {l l':List Chunk} {P:Program}
theorem ow.vh{b:Nat}{cs:List Value}{t:TypeId}(h:SL W l w)(m:Has (.ob (ow b cs t)) l):w.heap[b]?=some (.cells cs.toArray t (0,0)):=by
 obtain⟨k,s,x⟩:=h.out
 obtain⟨h1,e,le⟩:=m.heap s
 have e:h1=bw.one b (.cells cs.toArray t (0,0)):=e
 subst e
 exact x b _ (le b _ (by simp[bw.one]))
theorem ow.cell{b o:Nat}{cs:List Value}{t:TypeId}{v:Value}(h:SL W l w)(m:Has (.ob (ow b cs t)) l)(hv:cs[o]?=some v):w.cell? ⟨b,o,none⟩=some v:=by
 simp[World.cell?,ow.vh h m,hv]
theorem b_g{z cells:List Value}{ps:List (Nat × Nat × Value)}{e:TypeId}{n:Nat}{K:Value->World->Prop}(hS:SL W l w)(hc:lr z ps=some cells)
  (h:∀b w',SL W (.ob (ow b cells e)::l) w'->K (.slice (some ⟨b,0,none⟩) n n) w'):zm z ps e n w K:=⟨cells,hc,h _ _ (hS.alloc (c:=.ob (ow w.heap.size cells e)) rfl)⟩
theorem qd{dT sT ty elem tt:TypeId}{b o Gu Pt m I4 Uw sz:Nat}{a:Addr}{cs cd:List Value}{K:Value->World->Prop}(hS:SL W l w)(hu:P.underlying dT=some (.slice elem))(hs:(P.info? elem).map (·.size)=some sz)
  (hm:Nat.min I4 Gu=m) (hl:cs.length=m*sz) (lC:∀j v,cs[j]?=some v->w.cell? (a.add j)=some v) (u:kH (.pt b cd tt) (.pt b (cd.take o++cs++cd.drop (o+cs.length)) tt) l l') (ho:o+cs.length<=cd.length) (h1:∀v∈cs,v.oneCell'=true)
  (h:∀v w',SL W l' w'->K v w'):z7 P (Builtin.copy_ #[dT,sT] ty #[.slice (some ⟨b,o,none⟩) Gu Pt,.slice (some a) I4 Uw]) w K:=by
 have uS:=run_loadCells_list (P:=P) w a cs lC
 have kM:∀j,j<cs.length->∃v,cd[o+j]?=some v:=λj hj=>⟨_,List.getElem?_eq_getElem (by omega)⟩
 have kK:=run_storeCells_cells (P:=P) b o cs 0 w (λj hj=>by obtain⟨v,hv⟩:=kM j hj;rw[Nat.add_zero,hS.cell u.has hv];rfl) (λj hj=>by obtain⟨v,hv⟩:=kM j hj;rw[Nat.add_zero];exact hS.frozen u.has hv) h1
 simp only[Nat.add_zero]at kK
 have hr:(Builtin.copy_ #[dT,sT] ty #[.slice (some ⟨b,o,none⟩) Gu Pt,.slice (some a) I4 Uw]).run P w= .ok (goInt m) (w.setCells b o cs):=by
  cases hq:P.info? elem with
  | none=>simp[hq]at hs
  | some i=>
   have hi:i.size=sz:=by simpa [hq] using hs
   simp[Builtin.copy_,run_underlying hu,Builtin.lenOf,Builtin.firstCells,sizeOf,typeInfo,hq,hi,hm,<- hl,uS,kK]
 exact⟨_,_,hr,h _ _ (SL.U7 hS u ho)⟩
theorem b_h{ty t e:TypeId}{a:Option Addr}{n c:Nat}{K:Value->Prop}(ht:P.underlying t=some (.slice e))(h:K (.int .i64 c)):jZ P (Builtin.cap_ #[t] ty #[.slice a n c]) w K:=
 ⟨_,by simp[Builtin.cap_,run_underlying ht,goInt],h⟩
end
theorem Tryz.bFa:(Tryz.prog.info? 52).map (λi=>(i.zero.map (λz=>z.cells.toList),i.size,i.bytes))=some (some [.int .i64 0,.string ⟨#[]⟩],2,24):=by kernel_rfl
theorem Tryz.d_b:(Tryz.prog.info? 52).map (λi=>i.zero)=some (some (.agg #[.int .i64 0,.string ⟨#[]⟩])):=by kernel_rfl
theorem cwu(w:World):(sizeOf 52).run Tryz.prog w= .ok 2 w:=by kernel_rfl
theorem bWs{W w:World}{l:List Chunk}{vb b o m vc lb cb:Nat}{cv cs:List Value}{K:Value->World->Prop}(hS:SL W l w)(h1:Has (.ob (ow vb cv 52)) l)(h2:Has (.pt b cs 52) l)(jJ:vb≠b)(pN:cs.length≠0)
  (h:K (.bool false) w):Qu Tryz.prog 323 [.slice (some ⟨vb,0,none⟩) m vc,.slice (some ⟨b,o,none⟩) lb cb] w K:=by
 have e1:=ow.vh hS h1
 obtain⟨f,hf,e2⟩:=hS.vh h2
 have hsa:w.shape? vb=some (52,cv.length):=by simp[World.shape?,e1]
 have hsb:w.shape? b=some (52,cs.length):=by simp[World.shape?,e2]
 have hz:∀x:Addr,x.block=vb->w.frozen? x=false:=λx hx=>by simp only[World.frozen?,hx,e1];simp
 have hr:=Go.Lib.run_overlaps_apart (P:=Tryz.prog) w 53 4 52 Tryz.underlying53 2 cwu ⟨vb,0,none⟩ ⟨b,o,none⟩ m vc lb cb jJ 52 52 cv.length cs.length hsa hsb pN (hz _ rfl) (hz _ rfl)
 refine⟨.bool false,w,?_,h⟩
 have:=run_callFunc_extern Tryz.func323 (by kernel_rfl) (by kernel_rfl) (by kernel_rfl) (e:=Extern.SlicesOverlaps.overlaps #[53,53] #[4]) (by kernel_rfl) #[.slice (some ⟨vb,0,none⟩) m vc,.slice (some ⟨b,o,none⟩) lb cb] w
 rw[this,hr];rfl
theorem ow.ne{W w:World}{l:List Chunk}{b vb:Nat}{cs cv:List Value}{t t':TypeId}(h:SL W (.pt b cs t::.ob (ow vb cv t')::l) w):vb≠b:=by
 rintro rfl
 obtain⟨k,⟨h1,h2,s,⟨f,_,rfl⟩,h3,h4,s',e,r⟩,m⟩:=h.out
 have e:h3=bw.one vb (.cells cv.toArray t' (0,0)):=e
 subst e
 rcases s vb with ⟨a,_⟩|⟨a,_⟩
 ·simp[bw.one]at a
 ·rcases s' vb with ⟨c,_⟩|⟨_,c⟩
  ·simp[bw.one]at c
  ·rw[a]at c;simp[bw.one]at c
theorem IU(A E x:List Value):(A++E).take A.length++x++(A++E).drop (A.length+x.length)=A++x++E.drop x.length:=by
 rw[List.take_left,<- List.drop_drop,List.drop_left]
theorem b8l(A E D:List Value)(k:Nat)(hk:k<=E.length):(A++E).take (A.length+k)++D++(A++E).drop (A.length+k+D.length)=A++(E.take k++D++E.drop (k+D.length)):=by
 rw[List.take_length_add_append,Nat.add_assoc,<- List.drop_drop (l:=A++E),List.drop_left];simp
theorem qA(v:Value)(n i vb:Nat)(cells x:List Value)(hi:i<=n)(hx:x.length=2)(kD:∀v∈cells,v.oneCell'=true)(lT:∀v∈x,v.oneCell'=true)(hn:n<=1000000):
  SP 278 [v,.int .i64 (i:Int),.slice (some ⟨vb,0,none⟩) 1 1] [.ob (bI v 52 2 n cells),.ob (ow vb x 52)] (λu post=>post=[.ob (bI u 52 2 (n+1) (cells.take (i*2)++x++cells.drop (i*2)))]):=by
 intro W F w hS;apply dFi;delta MM aF dW ai dw;(try simp only[app]at hS)
 have lC:∀{l:List Chunk} {w:World},SL W l w->Has (.ob (ow vb x 52)) l->∀j u,x[j]?=some u->w.cell? ((⟨vb,0,none⟩:Addr).add j)=some u:=λh m j u e=>by
  rw[Addr.add_lit,Nat.zero_add];exact ow.cell h m e
 have kX:i=n->zr 2 24 [.int .i64 0,.string ⟨#[]⟩] 52 v (.slice (some ⟨vb,0,none⟩) 1 1) w λu w=>∃post,(post=[.ob (bI u 52 2 (n+1) (cells.take (i*2)++x++cells.drop (i*2)))])/\SL W (app post F) w:=λe=>by
  subst e
  obtain⟨_,_,_,hlen,_⟩:=bI.at hS Xh
  refine zy (n:=i) (m:=1) hS Xr ⟨rfl,hx,lC hS Xh⟩ (by omega) rfl lT (by omega) (by omega) ?_
  clear hS;intro u w hS
  rw[List.take_of_length_le (by omega),List.drop_eq_nil_of_le (by omega),List.append_nil]
  exact⟨_,rfl,aR hS⟩
 rcases bI.open hS with ⟨⟨a,rfl⟩,rfl,rfl,_⟩|⟨b,cap,rest,rfl,wD,hlen,mW,Cf⟩
 ·refine⟨a,0,0,i,0,0,rfl,rfl,rfl,⟨_,rfl⟩,hi,Nat.le_refl _,Nat.le_refl _,?_⟩
  refine yo ?_
  refine Gp ?_
  refine za (λh=>by omega) (λ_=>?_)
  refine yo ?_
  refine Gp ?_
  exact za (λh=>kX (by omega)) (λh=>by omega)
 refine⟨_,n,cap,i,n,cap,rfl,rfl,rfl,⟨_,rfl⟩,hi,wD,Nat.le_refl _,?_⟩
 refine yo ?_
 refine Gp ?_
 refine za (λh=>by omega) (λ_=>?_)
 refine yo ?_
 refine Gp ?_
 refine za (λh=>kX (by omega)) (λjJ=>?_)
 clear kX hS
 have hS:=Cf
 clear Cf
 have py:i<n:=by omega
 have hvb:=ow.ne hS
 refine Gp ?_
 refine b_h Tryz.underlying53 ?_
 refine Gp ?_
 obtain⟨A,hA⟩:∃A,A=cells.take (i*2):=⟨_,rfl⟩
 obtain⟨D,hD⟩:∃D,D=cells.drop (i*2):=⟨_,rfl⟩
 have En:cells=A++D:=by rw[hA,hD,List.take_append_drop]
 have uL:A.length=i*2:=by rw[hA,List.length_take];omega
 have Ry:D.length=(n-i)*2:=by rw[hD,List.length_drop];omega
 have Rx:∀v∈D,v.oneCell'=true:=λv hv=>kD v (by rw[En];exact List.mem_append_right _ hv)
 rw[<- hA,<- hD]
 have nM:(Tryz.prog.info? 52).map (·.size)=some 2:=by kernel_rfl
 refine za (λhg=>?_) (λhg=>?_)
 ·
  have Er:cap=n:=by omega
  subst Er
  refine⟨_,cap,cap,0,i,cap,rfl,rfl,⟨_,rfl⟩,rfl,by omega,by omega,by omega,?_⟩
  rw[if_neg (show ¬cap=0 by omega)]
  simp only[Option.map_some,Addr.add_lit,Nat.zero_mul,Nat.add_zero,Nat.sub_zero]
  refine Gp ?_
  rw[show (((cap+1:Nat):Int)-(i:Int))=((cap+1-i:Nat):Int) by omega]
  cases hq:Tryz.prog.info? 52 with
  | none=>rw[hq]at nM;cases nM
  | some ti=>
   have hI:=Tryz.bFa
   rw[hq]at hI
   have hZ:=Tryz.d_b
   rw[hq]at hZ
   simp only[Option.map_some,Option.some.injEq,Prod.mk.injEq]at hI hZ
   obtain⟨_,h2,h3⟩:=hI
   have hold:(Builtin.firstCells ti.size i (.slice (some ⟨b,0,none⟩) i cap)).run Tryz.prog w.drew= .ok A.toArray w.drew:=by
    have hl:=run_loadCells_list (P:=Tryz.prog) w.drew ⟨b,0,none⟩ A λj u hj=>by
     rw[Addr.add_lit,Nat.zero_add]
     refine hS.drew.cell .hd ?_
     rw[En,List.append_assoc,List.getElem?_append_left (List.getElem?_eq_some_iff.1 hj).1];exact hj
    rw[uL]at hl
    rw[h2]
    simp[Builtin.firstCells,hl]
   have rW:Builtin.nextslicecap (i+(cap+1-i)) cap*ti.bytes<=281474976710656:=growslice_fits (by omega) (by rw[h3];omega)
   have EO:=Go.Lib.run_append_grow_zeros (P:=Tryz.prog) w 53 3 53 52 ti _ .i64 .i64 Tryz.underlying53 Tryz.underlying3 hq hZ (some ⟨b,0,none⟩) i cap A hold (cap+1-i) (by omega) (by omega) (by omega) (by omega) (by rw[h3];omega) rW
   refine⟨_,_,EO,?_⟩
   generalize hcp:grownCap w (i+(cap+1-i)) cap 52=cp
   have wG:cap+1<=cp:=by
    have:=grownCap_ge w (i+(cap+1-i)) cap 52
    omega
   have hz:∀k,Builtin.zeroCells (Value.cells (.agg #[.int .i64 0,.string ⟨#[]⟩])) k=(cW [.int .i64 0,.string ⟨#[]⟩] k).toArray:=λk=>by
    rw[<- JF (Value.cells (.agg #[.int .i64 0,.string ⟨#[]⟩])) [.int .i64 0,.string ⟨#[]⟩] rfl k,Array.toArray_toList]
   rw[hz,hz]
   obtain⟨E,hE⟩:∃E:List Value,E=cW [.int .i64 0,.string ⟨#[]⟩] (cap+1-i)++cW [.int .i64 0,.string ⟨#[]⟩] (cp-(i+(cap+1-i))):=⟨_,rfl⟩
   have hEl:E.length=(cp-i)*2:=by rw[hE,List.length_append,om,om];simp;omega
   have e2:A.toArray++(cW [.int .i64 0,.string ⟨#[]⟩] (cap+1-i)).toArray++(cW [.int .i64 0,.string ⟨#[]⟩] (cp-(i+(cap+1-i)))).toArray=(A++E).toArray:=by rw[hE];simp
   rw[e2]
   have hS:=SL.new (cs:=A++E) (t:=52) hS.drew
   clear EO hold hz e2 hE
   have xU:w.heap.size=w.drew.heap.size:=rfl
   rw[xU]
   generalize w.drew.heap.size=nb at *
   generalize (w.drew.alloc (.cells (A++E).toArray 52))=w at *
   have ei:i+(cap+1-i)=cap+1:=by omega
   rw[ei]
   refine⟨_,cap+1,cp,i,cap+1,cp,rfl,rfl,rfl,⟨_,rfl⟩,by omega,wG,Nat.le_refl _,?_⟩
   rw[if_neg (show ¬cp=i by omega)]
   simp only[Option.map_some,Addr.add_lit,Nat.zero_add]
   have e3:=IU A E x
   rw[uL]at e3
   refine qd (tt:=52) (l':=.pt nb (A++x++E.drop x.length) 52::.pt b (cells++rest) 52::.ob (ow vb x 52)::F) hS Tryz.underlying53 nM (m:=1) (sz:=2) (Nat.min_eq_left (by omega)) (by omega) (lC hS Xh) (by rw[e3];exact kH.hd) (by rw[List.length_append];omega) lT ?_
   clear hS e3
   intro _ w hS
   refine Gn λw hS=>?_
   refine⟨_,cap+1,cp,i+1,cap+1,cp,rfl,rfl,rfl,⟨_,rfl⟩,by omega,wG,Nat.le_refl _,?_⟩
   rw[if_neg (show ¬cp=i+1 by omega)]
   refine⟨_,cap,cap,i,cap,cap,rfl,rfl,rfl,⟨_,rfl⟩,by omega,Nat.le_refl _,Nat.le_refl _,?_⟩
   rw[if_neg (show ¬cap=i by omega)]
   simp only[Option.map_some,Addr.add_lit,Nat.zero_add]
   have e4:=IU (A++x) (E.drop x.length) D
   have e5:(A++x).length=(i+1)*2:=by rw[List.length_append];omega
   rw[e5]at e4
   have Rz:(E.drop x.length).length=E.length-2:=by rw[List.length_drop,hx]
   refine qd (tt:=52) (l':=.pt nb (A++x++D++(E.drop x.length).drop D.length) 52::.pt b (cells++rest) 52::.ob (ow vb x 52)::F) hS Tryz.underlying53 nM (m:=cap-i) (sz:=2) (Nat.min_eq_left (by omega)) Ry (λj u hj=>?_) (by rw[e4];exact kH.hd) (by rw[List.length_append,e5,Rz];omega) Rx ?_
   ·rw[Addr.add_lit]
    refine hS.cell (.tl .hd) ?_
    rw[En,List.append_assoc,List.getElem?_append_right (by omega),uL,Nat.add_sub_cancel_left,List.getElem?_append_left (List.getElem?_eq_some_iff.1 hj).1];exact hj
   clear hS e4
   intro _ w hS
   refine⟨_,rfl,SL.b_ (bI.mk (sz:=2) (n:=cap+1) (cap:=cp) (cells:=A++x++D) (rest:=(E.drop x.length).drop D.length) wG ?_ ?_ hS) Xi⟩
   ·rw[List.length_append,e5];omega
   ·rw[List.length_drop,Rz];omega
 ·
  have a_k:n+1<=cap:=by omega
  clear hg
  have wJ:2<=rest.length:=by rw[mW];omega
  refine Gp ?_
  refine⟨_,n,cap,0,n+1,cap,rfl,rfl,⟨_,rfl⟩,rfl,by omega,by omega,by omega,?_⟩
  rw[if_neg (show ¬cap=0 by omega)]
  simp only[Option.map_some,Addr.add_lit,Nat.zero_mul,Nat.add_zero,Nat.sub_zero]
  refine Gp ?_
  refine⟨_,n+1,cap,i+1,n+1,cap,rfl,rfl,rfl,⟨_,rfl⟩,by omega,by omega,by omega,?_⟩
  rw[if_neg (show ¬cap=i+1 by omega)]
  simp only[Option.map_some,Addr.add_lit,Nat.zero_add]
  refine bWs hS Xh Xh hvb (by rw[List.length_append];omega) ?_
  refine⟨_,rfl,?_⟩
  refine zw ?_
  refine Gn λw hS=>?_
  refine⟨_,n+1,cap,i+1,n+1,cap,rfl,rfl,rfl,⟨_,rfl⟩,by omega,by omega,by omega,?_⟩
  rw[if_neg (show ¬cap=i+1 by omega)]
  refine⟨_,n+1,cap,i,n+1,cap,rfl,rfl,rfl,⟨_,rfl⟩,by omega,by omega,by omega,?_⟩
  rw[if_neg (show ¬cap=i by omega)]
  simp only[Option.map_some,Addr.add_lit,Nat.zero_add]
  obtain⟨E,hE⟩:∃E,E=D++rest:=⟨_,rfl⟩
  have hEl:E.length=(cap-i)*2:=by rw[hE,List.length_append];omega
  have hAE:cells++rest=A++E:=by rw[En,hE,List.append_assoc]
  rw[hAE]at hS
  have e3:=b8l A E D 2 (by omega)
  rw[uL,show i*2+2=(i+1)*2 by omega]at e3
  refine qd (tt:=52) (l':=.pt b (A++(E.take 2++D++E.drop (2+D.length))) 52::.ob (ow vb x 52)::F) hS Tryz.underlying53 nM (m:=n-i) (sz:=2) (by simp only[Nat.min_def];split<;>omega) Ry (λj u hj=>?_) (by rw[e3];exact kH.hd) (by rw[List.length_append];omega) Rx ?_
  ·rw[Addr.add_lit]
   refine hS.cell .hd ?_
   rw[List.getElem?_append_right (by omega),uL,Nat.add_sub_cancel_left,hE,List.getElem?_append_left (List.getElem?_eq_some_iff.1 hj).1];exact hj
  clear hS e3
  intro _ w hS
  refine⟨_,n+1,cap,i,n+1,cap,rfl,rfl,rfl,⟨_,rfl⟩,by omega,by omega,by omega,?_⟩
  rw[if_neg (show ¬cap=i by omega)]
  simp only[Option.map_some,Addr.add_lit,Nat.zero_add]
  have e4:=IU A (E.take 2++D++E.drop (2+D.length)) x
  rw[uL,hx]at e4
  have A5:(E.take 2).length=2:=by rw[List.length_take];omega
  have e5:(E.take 2++D++E.drop (2+D.length)).drop 2=D++E.drop (2+D.length):=by
   rw[List.append_assoc]
   have:=List.drop_left (l₁:=E.take 2) (l₂:=D++E.drop (2+D.length))
   rwa [A5]at this
  rw[e5]at e4
  refine qd (tt:=52) (l':=.pt b (A++x++(D++E.drop (2+D.length))) 52::.ob (ow vb x 52)::F) hS Tryz.underlying53 nM (m:=1) (sz:=2) (Nat.min_eq_left (by omega)) (by omega) (lC hS Xh) (by rw[hx,e4];exact kH.hd) (by rw[List.length_append,List.length_append,List.length_append,A5,List.length_drop];omega) lT ?_
  clear hS e4 e5
  intro _ w hS
  rw[<- List.append_assoc (A++x)]at hS
  refine⟨_,rfl,SL.b_ (bI.mk (sz:=2) (n:=n+1) (cap:=cap) (cells:=A++x++D) (rest:=E.drop (2+D.length)) a_k ?_ ?_ hS) Xi⟩
  ·rw[List.length_append,List.length_append];omega
  ·rw[List.length_drop];omega
abbrev eF(b:Nat):Value:=.pointer (some ⟨b,0,none⟩)
theorem cwf{W w:World}{l:List Chunk}{α:Type}{enc:α->List Value}{v u:Value}{t:TypeId}{sz j i:Nat}{k:IntKind}{xs:List α}{y:α}{K:World->Prop}(hS:SL W (.ob (bI v t sz xs.length (xs.map enc).flatten)::l) w)(hn:∀x,(enc x).length=sz)
  (hj:j<xs.length) (hi:i<sz) (hy:(enc xs[j]).set i u=enc y) (h1:u.oneCell'=true) (hK:∀w',SL W (.ob (bI v t sz (xs.set j y).length ((xs.set j y).map enc).flatten)::l) w'->K w'):ze sz v (.int k (j:Int)) λp=>zq i p λq=>jH q u w K:=by
 rcases bI.open hS with ⟨_,h0,_⟩|⟨b,cap,rest,rfl,hc,hlen,mW,hS⟩
 ·omega
 have iZ:j*sz+i<xs.length*sz:=by
  have:(j+1)*sz<=xs.length*sz:=Nat.mul_le_mul_right _ hj
  rw[Nat.add_mul]at this;omega
 refine zH hj (zW ?_)
 rw[Nat.zero_add]
 refine Zn hS .hd (List.getElem?_eq_getElem (by rw[List.length_append];omega)) h1 λw' hS=>hK w' ?_
 rw[List.set_append_left _ _ (by omega),GU hn xs j i hj y u hi hy]at hS
 have hl:(xs.set j y).length=xs.length:=List.length_set
 rw[hl]
 refine bI.mk hc ?_ mW hS
 rw[l8 hn,hl]
theorem cwi{W w:World}{l:List Chunk}{v:Value}{t:TypeId}{sz n k:Nat}{kk:IntKind}{cells:List Value}{K:Value->Prop}(h:SL W l w)(mm:Has (.ob (bI v t sz n cells)) l)(hk:k<=n)
  (hK:∀A c,n-k<=c->(∀m c' w' l',m<=n-k->SL W l' w'->Has (.ob (bI v t sz n cells)) l'->m8 w' sz (.slice A m c') m ((cells.drop (k*sz)).take (m*sz)))->K (.slice A (n-k) c)):iQ sz v (some (.int kk (k:Int))) none none K:=by
 obtain⟨a,cap,rfl,hl,_⟩:=bI.at h mm
 have wD:n<=cap:=by
  obtain⟨l2,r⟩:=mm.rem
  rcases bI.open (h.perm r.perm) with ⟨⟨a',e⟩,rfl,rfl,_⟩|⟨b,vk,rest,e,hc,_⟩
  ·cases e;omega
  ·cases e;exact hc
 refine⟨a,n,cap,k,n,cap,rfl,rfl,rfl,⟨kk,rfl⟩,hk,wD,Nat.le_refl _,hK _ _ (by omega) λm c' w' l' hm h' m'=>?_⟩
 obtain⟨a',vk,e,_,hx⟩:=bI.at h' m'
 cases e
 have sE:((cells.drop (k*sz)).take (m*sz)).length=m*sz:=by
  have:(k+m)*sz<=n*sz:=Nat.mul_le_mul_right _ (by omega)
  rw[Nat.add_mul]at this
  rw[List.length_take,List.length_drop,hl];omega
 rcases Nat.eq_zero_or_pos m with rfl|Sh
 ·have:(cells.drop (k*sz)).take (0*sz)=[]:=by simp
  rw[this]
  generalize (if cap=k then a else a.map (·.add (k*sz)))=A
  cases A with
  | none=>exact⟨rfl,rfl⟩
  | some p=>exact⟨rfl,by simp,λj v e=>by simp at e⟩
 ·obtain⟨b,rfl,h3⟩:=hx 0 (by omega)
  rw[if_neg (show ¬cap=k by omega)]
  refine⟨rfl,sE,λj v e=>?_⟩
  show w'.cell? (((⟨b,0,none⟩:Addr).add (k*sz)).add j)=some v
  rw[Addr.add_lit,Addr.add_lit]
  refine h3 _ v ?_
  rw[List.getElem?_take]at e
  split at e
  ·rw[List.getElem?_drop]at e
   rw[Nat.zero_add];exact e
  ·cases e
abbrev jC(v:Value)(l:List Row):Chunk:=.ob (bI v 52 2 l.length (l.map iu).flatten)
theorem D4{z v:Value}(h:v.oneCell'=true):lr (cW [z] 1) [(0,1,v)]=some [v]:=by simp[lr,cW,vQ h]
theorem s7(r:Row):∀v∈iu r,v.oneCell'=true:=by simp[iu,Value.oneCell']
theorem D2(k:Int)(v:ByteArray):iu ⟨k,v⟩=[.int .i64 k,.string v]:=rfl
def jO(x:Nat × List Row):zE:=nr λv:Value=>zU True [.pt x.1 [v] 250,jC v x.2]
theorem jO.iff{W w:World}{b:Nat}{C:List Row}{l:List Chunk}:SL W (.ob (jO (b,C))::l) w↔∃v,SL W (.pt b [v] 250::jC v C::l) w:=by
 unfold jO
 simp only[SL.ex,SL.fact,List.cons_append,List.nil_append,true_and]
theorem jO.put{W w:World}{b:Nat}{C:List Row}{v:Value}{l F:List Chunk}(hS:SL W l w)(p:kI [.pt b [v] 250,jC v C] l F):SL W (.ob (jO (b,C))::F) w:=jO.iff.2 ⟨v,hS.pick p⟩
theorem qE(a:Int):SP 343 [.int .i64 a] [] (eW (.bool false) []):=by
 intro W F w hS;apply dIz;unfold Nz;(try simp only[app]at hS)
 refine Gp ?_
 rw[show decide (a≠a)=false by simp]
 (exact fw hS)
def su(a b:Int):Int:=if a<b then -1 else if b<a then 1 else 0
theorem Pp{a b:Int}:su a b<0↔a<b:=by unfold su;split<;>(try split)<;>omega
theorem W8{a b:Int}:su a b=0↔a=b:=by unfold su;split<;>(try split)<;>omega
theorem W9(a b:Int):SP 299 [.int .i64 a,.int .i64 b] [] (eW (.int .i64 (su a b)) []):=by
 intro W F w hS;apply dF1;delta M7 aF ai;(try simp only[app]at hS)
 refine Cg (qE a) λw hS=>?_
 refine Cg (qE b) λw hS=>?_
 refine za (λh=>?_) (λh=>?_)
 ·rw[show su a b = -1 by unfold su;rw[if_pos h]]
  (exact fw hS)
 refine b9 (λh2=>?_) (λh2=>?_)
 ·rw[show su a b=1 by unfold su;rw[if_neg h,if_pos h2]]
  (exact fw hS)
 ·rw[show su a b=0 by unfold su;rw[if_neg h,if_neg h2]]
  (exact fw hS)
theorem YA(r:Row)(key:Int):SP 298 [agg (iu r),.int .i64 key] [] (eW (.int .i64 (su r.key key)) []):=by
 obtain⟨rk,rv⟩:=r
 intro W F w hS;apply dF0;delta M6 a_;(try simp only[app]at hS)
 refine zC hS λxb w hS=>?_
 rw[D2]at hS
 refine Gp ?_
 refine Cg (W9 rk key) λw hS=>?_
 (exact fw hS)
theorem b_w{i j:Nat}{K:Value->Prop}(h:i+j<=1000000000)(k:K (.int .i64 (((i+j) / 2:Nat):Int))):zc .add (.int .i64 i) (.int .i64 j) λa=>zG .u64 a λb=>zc .shr b (.int .u64 1) λc=>zG .i64 c K:=by
 refine yh (by omega) (zO ?_)
 rw[IntKind.wrap_u64,show ((i+j:Nat):Int) % 18446744073709551616=((i+j:Nat):Int) by omega]
 have e:((i+j:Nat):Int).fdiv (2 ^ (min (1:Int).toNat IntKind.u64.bits))=(((i+j) / 2:Nat):Int):=by
  rw[show (min (1:Int).toNat IntKind.u64.bits)=1 by decide,Int.fdiv_eq_ediv_of_nonneg _ (by decide)]
  omega
 refine⟨_,by simp only[mK];rw[if_neg (by decide)],?_⟩
 rw[e]
 exact yl (by omega) k
theorem WG(v:Value)(C:List Row)(key:Int)(hs:kB C)(hn:C.length<=1000000):
  SP 297 [v,.int .i64 key,.func (.func 298) #[] #[]] [jC v C] (λu post=>∃i,AtR C key i/\u= .tuple #[.int .i64 (i:Nat),.bool (n_ C key i)]/\post=[jC v C]):=by
 intro W F w hS;apply dFz;delta M5 aF ai;(try simp only[app]at hS)
 refine zx hS Xh ?_
 refine⟨λus w=>∃i j:Nat,us=[.int .i64 i,.int .i64 j]/\i<=j/\j<=C.length/\(∀k (h:k<C.length),k<i->C[k].key<key)/\(∀h:j<C.length,key<=C[j].key)/\SL W (jC v C::F) w,
  λus _=>match us with|[.int _ i,.int _ j]=>(j-i).toNat|_=>0,⟨0,C.length,rfl,by omega,by omega,λk h hk=>by omega,λh=>by omega,hS⟩,?_⟩
 clear hS
 rintro v9 v10 w ⟨i,j,dR,vC,hj,CD,Ey,hS⟩
 cases dR
 refine UF ?_
 refine za (λh=>?_) (λh=>?_)
 ·refine b_w (by omega) ?_
  generalize hm:(i+j) / 2=m
  have AY:i<=m/\m<j:=by omega
  clear hm
  have tU:m<C.length:=by omega
  refine yd hS Xh jG (x:=C[m]) (by simp[tU]) tU ?_
  refine⟨298,#[],#[],rfl,by decide,?_⟩
  refine Cg (YA C[m] key) λw hS=>?_
  refine za (λh1=>?_) (λh1=>?_)
  ·have h1:=Pp.1 h1
   refine Gp ?_
   refine⟨⟨m+1,j,rfl,by omega,hj,λk hk hkm=>?_,Ey,hS⟩,by dsimp only;omega⟩
   rcases Nat.lt_or_ge k m with h2|h2
   ·have:=List.pairwise_iff_getElem.1 hs k m hk tU h2
    omega
   ·obtain rfl:k=m:=by omega
    exact h1
  ·have h1:¬C[m].key<key:=λh2=>h1 (Pp.2 h2)
   exact⟨⟨i,m,rfl,AY.1,by omega,CD,λ_=>by omega,hS⟩,by dsimp only;omega⟩
 ·obtain rfl:i=j:=by omega
  have hA:AtR C key i:=⟨hj,CD,Ey⟩
  refine b9 (λh1=>?_) (λh1=>?_)
  ·have b8:i<C.length:=by omega
   refine yd hS Xh jG (x:=C[i]) (by simp[b8]) b8 ?_
   refine⟨298,#[],#[],rfl,by decide,?_⟩
   refine Cg (YA C[i] key) λw hS=>?_
   have e:decide (su C[i].key key=0)=n_ C key i:=by
    unfold n_
    rw[decide_eq_decide,W8]
    exact⟨λh=>⟨b8,h⟩,λ⟨_,h⟩=>h⟩
   rw[e]
   exact⟨_,⟨i,hA,rfl,rfl⟩,hS⟩
  ·have e:n_ C key i=false:=decide_eq_false λ⟨h,_⟩=>h1 (by omega)
   rw[<- e]
   exact⟨_,⟨i,hA,rfl,rfl⟩,hS⟩
theorem qv(v:Value)(n i:Nat)(cells:List Value)(hi:i<n)(kD:∀v∈cells,v.oneCell'=true)(hb:n*24<=140737488355328)(hn:n<=140737488355328):
  SP 327 [v,.int .i64 (i:Int),.int .i64 ((i+1:Nat):Int)] [.ob (bI v 52 2 n cells)] (λu post=>post=[.ob (bI u 52 2 (n-1) (cells.take (i*2)++cells.drop ((i+1)*2)))]):=
 PI (z:=[.int .i64 0,.string ⟨#[]⟩]) (zv:=.agg #[.int .i64 0,.string ⟨#[]⟩]) (λv0 v1 v2 w R h=>dIs v0 v1 v2 w R h) Tryz.underlying53 (λw=>by kernel_rfl) rfl rfl (by simp[Value.oneCell']) v n i cells hi kD hb hn
theorem W6(v:Value)(C:List Row)(hn:C.length<=1000000):SP 170 [v] [jC v C] (λu post=>post=[jC u C,jC v C]):=
 W7 (λv0 w R h=>Jw v0 w R h) rfl (by decide) (pD s7 C) (l8 jG C) (by omega) (by omega)
section
variable (b:Nat) (C:List Row) (key:Int) (hs:kB C) (hn:C.length<=1000000)
include hs hn
theorem yU(v:Value):SP 240 [eF b,.int .i64 key] [.pt b [v] 250,jC v C] (λu post=>∃i,AtR C key i/\u= .tuple #[.int .i64 (i:Nat),.bool (n_ C key i)]/\post=[.pt b [v] 250,jC v C]):=by
 intro W F w hS;apply dwi;delta Mc bF;(try simp only[app]at hS)
 refine Gp ?_
 refine Cc (WG v C key hs hn) ?_;clear hS
 rintro u post ⟨i,hA,rfl,rfl⟩ w hS
 (try simp only[app]at hS);refine Gp ?_
 exact⟨_,⟨i,hA,rfl,rfl⟩,aR hS⟩
theorem YE(val:ByteArray):SP 217 [eF b,.int .i64 key,.string val] [.ob (jO (b,C))] (λu post=>(∃q,u= .bool q)/\post=[.ob (jO (b,kE C ⟨key,val⟩))]):=by
 intro W F w hS;apply c_v;delta LL bF fR cw ai dw;(try simp only[app]at hS)
 obtain⟨v,hS⟩:=jO.iff.1 hS
 refine Cc (yU b C key hs hn v) ?_;clear hS
 rintro u post ⟨i,hA,rfl,rfl⟩ w hS
 (try simp only[app]at hS);refine Gp ?_
 have hi:=hA.ins val
 have hle:=hA.le
 cases hk:n_ C key i with
 | true=>
  rw[hk,if_pos rfl]at hi
  obtain⟨b8,_⟩:=of_decide_eq_true hk
  refine zw ?_
  refine Gp ?_
  refine cwf (enc:=iu) (y:=⟨key,val⟩) (Has.front hS (l2:=.pt b [v] 250::F) Xr) jG b8 (by decide) ?_ rfl λw hS=>?_
  ·obtain⟨_,e⟩:=of_decide_eq_true hk
   rw[<- e];rfl
  rw[hi]
  exact⟨_,⟨⟨_,rfl⟩,rfl⟩,jO.iff.2 ⟨v,aR hS⟩⟩
 | false=>
  rw[hk,if_neg (by decide)]at hi
  refine zt ?_
  (repeat refine Gp ?_)
  refine b_g hS (Ra (cs:=iu ⟨key,val⟩) rfl rfl) λvb w hS=>?_
  refine Cc (qA v C.length i vb (C.map iu).flatten (iu ⟨key,val⟩) hle rfl (pD s7 _) (s7 _) hn) ?_;clear hS
  rintro u post rfl w hS
  try simp only[app]at hS
  have h1:=bI.one hS
  refine Gn λw hS=>?_
  have e:((C.map iu).flatten.take (i*2)++iu ⟨key,val⟩++(C.map iu).flatten.drop (i*2))=((kE C ⟨key,val⟩).map iu).flatten:=by
   rw[hi,sA jG,rN jG];simp
  have hl:C.length+1=(kE C ⟨key,val⟩).length:=by rw[hi];simp;omega
  rw[e,hl]at hS
  exact⟨_,⟨⟨_,rfl⟩,rfl⟩,jO.iff.2 ⟨u,aR hS⟩⟩
theorem bwr:SP 283 [eF b,.int .i64 key] [.ob (jO (b,C))] (λu post=>(∃q,u= .bool q)/\post=[.ob (jO (b,mj C key))]):=by
 intro W F w hS;apply dFo;delta MT bF fR ai;(try simp only[app]at hS)
 obtain⟨v,hS⟩:=jO.iff.1 hS
 refine Cc (yU b C key hs hn v) ?_;clear hS
 rintro u post ⟨i,hA,rfl,rfl⟩ w hS
 (try simp only[app]at hS);refine Gp ?_
 have hi:=hA.del hs
 have hle:=hA.le
 cases hk:n_ C key i with
 | true=>
  rw[hk,if_pos rfl]at hi
  obtain⟨b8,_⟩:=of_decide_eq_true hk
  refine zw ?_
  refine Gp ?_
  refine Cc (qv v C.length i (C.map iu).flatten b8 (pD s7 _) (by omega) (by omega)) ?_;clear hS
  rintro u post rfl w hS
  try simp only[app]at hS
  have h1:=bI.one hS
  refine Gn λw hS=>?_
  have e:((C.map iu).flatten.take (i*2)++(C.map iu).flatten.drop ((i+1)*2))=((mj C key).map iu).flatten:=by
   rw[hi,sA jG,rN jG];simp
  have hl:C.length-1=(mj C key).length:=by rw[hi,List.length_append,List.length_take,List.length_drop];omega
  rw[e,hl]at hS
  exact⟨_,⟨⟨_,rfl⟩,rfl⟩,jO.iff.2 ⟨u,aR hS⟩⟩
 | false=>
  rw[hk,if_neg (by decide)]at hi
  refine zt ?_
  rw[hi]
  exact⟨_,⟨⟨_,rfl⟩,rfl⟩,jO.iff.2 ⟨v,aR hS⟩⟩
def Rj(o:Option ByteArray):Value:=.tuple #[.string (o.getD emp),.bool o.isSome]
theorem bwy:SP 224 [eF b,.int .i64 key] [.ob (jO (b,C))] (eW (Rj (jV C key)) [.ob (jO (b,C))]):=by
 intro W F w hS;apply c_3;delta LU bF a_ dW;(try simp only[app]at hS)
 obtain⟨v,hS⟩:=jO.iff.1 hS
 refine Cc (yU b C key hs hn v) ?_;clear hS
 rintro u post ⟨i,hA,rfl,rfl⟩ w hS
 (try simp only[app]at hS);refine Gp ?_
 obtain⟨Cr,Hi⟩:=hA.get hs
 cases hk:n_ C key i with
 | true=>
  obtain⟨b8,e⟩:=of_decide_eq_true hk
  refine zt ?_
  refine Gp ?_
  refine zJ hS Xh jG (x:=C[i]) (by simp[b8]) b8 (i:=1) rfl ?_
  rw[Hi b8 e]
  exact⟨_,⟨rfl,rfl⟩,jO.iff.2 ⟨v,aR hS⟩⟩
 | false=>
  refine zw ?_
  have e:jV C key=none:=by
   rw[hk]at Cr
   cases hg:jV C key with
   | none=>rfl
   | some x=>rw[hg]at Cr;cases Cr
  rw[e]
  exact⟨_,⟨rfl,rfl⟩,jO.iff.2 ⟨v,aR hS⟩⟩
theorem qy(n:Int)(h1 : -1000000<=n)(h2:n<=9000000000000000000):SP 171 [eF b,.int .i64 key,.int .i64 n] [.ob (jO (b,C))] (λu post=>post=[jC u (oy C key n),.ob (jO (b,C))]):=by
 intro W F w hS;apply cWm;delta K3 bF ai;(try simp only[app]at hS)
 obtain⟨v,hS⟩:=jO.iff.1 hS
 refine Cc (yU b C key hs hn v) ?_;clear hS
 rintro u post ⟨i,hA,rfl,rfl⟩ w hS
 (try simp only[app]at hS);refine Gp ?_
 have ha:=hA.after hs n
 have hle:=hA.le
 obtain⟨k,hk⟩:∃k,k=if n_ C key i=true then i+1 else i:=⟨_,rfl⟩
 rw[<- hk]at ha
 have ml:k<=C.length:=by
  rw[hk];split
  ·rename_i h
   obtain⟨b8,_⟩:=of_decide_eq_true h
   omega
  ·exact hle
 refine⟨λus w=>us=[.int .i64 (k:Nat)]/\SL W (.pt b [v] 250::jC v C::F) w,?_,?_⟩
 ·cases hq:n_ C key i with
  | true=>
   refine zw ?_
   refine Gp ?_
   exact⟨by rw[hk,hq,if_pos rfl],aR hS⟩
  | false=>
   refine zt ?_
   exact⟨by rw[hk,hq,if_neg (by decide)],aR hS⟩
 clear hS
 rintro v7 w ⟨dR,hS⟩
 cases dR
 refine Gp ?_
 refine cwi hS Xh ml λA c hc lC=>?_
 refine Gp ?_
 obtain⟨m,hm⟩:∃m,m=min n.toNat (C.length-k):=⟨_,rfl⟩
 have em:max (min n ((C.length-k:Nat):Int)) 0=((m:Nat):Int):=by omega
 rw[em]
 refine⟨A,C.length-k,c,0,m,c,rfl,rfl,⟨_,rfl⟩,rfl,Nat.zero_le _,by omega,Nat.le_refl _,?_⟩
 have eA:(if c=0 then A else A.map (·.add (0*2)))=A:=by
  split
  ·rfl
  ·cases A<;>simp[Addr.add]
 rw[eA,Nat.sub_zero,Nat.sub_zero]
 have XO:((C.map iu).flatten.drop (k*2)).take (m*2)=((oy C key n).map iu).flatten:=by
  rw[rN jG,sA jG,ha]
  congr 2
  rcases Nat.lt_or_ge n.toNat (C.length-k) with h|h
  ·congr 1;omega
  ·rw[List.take_of_length_le (by rw[List.length_drop];omega),List.take_of_length_le (by rw[List.length_drop];omega)]
 have el:m=(oy C key n).length:=by rw[ha,List.length_take,List.length_drop];omega
 have SC:∀v0 w R,BK 2 24 [.int .i64 0,.string ⟨#[]⟩] 52 52 v0 w R->aw 170 [v0] w R:=λv0 w R h=>Jw v0 w R h
 refine SC _ _ _ (Gk (sz:=2) (lQ:=24) (z:=[.int .i64 0,.string ⟨#[]⟩]) (t:=52) (ts:=52) (n:=m) (cs:=((oy C key n).map iu).flatten) ⟨A,c,rfl⟩ (λw' d h=>?_) (by rw[l8 jG,<- el]) rfl (by decide) (pD s7 _) (by omega) (by omega) hS λu w hS=>?_)
 ·rw[<- XO]
  exact lC m c w' _ (by omega) h (.tl Xh)
 ·rw[el]at hS
  exact⟨_,rfl,SL.b_ (jO.put hS Xp) Xi⟩
end
theorem bw0(b:Nat)(C:List Row):SP 223 [eF b] [.ob (jO (b,C))] (eW (.int .i64 (C.length:Nat)) [.ob (jO (b,C))]):=by
 intro W F w hS;apply c_2;delta LS bF;(try simp only[app]at hS)
 obtain⟨v,hS⟩:=jO.iff.1 hS
 refine Gp ?_
 refine zx hS Xh ?_
 exact⟨_,⟨rfl,rfl⟩,jO.iff.2 ⟨v,aR hS⟩⟩
theorem YD(H:bw)(v:Value)(l:List Row)(hv:fW H 2 v l.length (l.map iu).flatten)(hl:l.length<=100000):SP 136 [v] [.mem H] (λu post=>∃b,u=eF b/\post=[.ob (jO (b,pS [] l)),.mem H]):=by
 intro W F w hS;apply cRo;delta Kw aF a_ ai dw bR;(try simp only[app]at hS)
 refine Gp ?_
 refine zC hS λxb w hS=>?_
 have hS:SL W (jC (.slice none 0 0) []::_) _:=bI.nil hS
 have hS:SL W (.ob (jO (xb,[]))::.mem H::F) _:=jO.iff.2 ⟨_,aR hS⟩
 refine zn hv ?_
 refine⟨λus w=>∃i:Nat,us=[.int .i64 i]/\i<=l.length/\SL W (.ob (jO (xb,pS [] (l.take i)))::.mem H::F) w,λus _=>match us with|[.int _ i]=>(l.length-i).toNat|_=>0,⟨0,rfl,by omega,hS⟩,?_⟩
 clear hS
 rintro v10 w ⟨i,dR,hi,hS⟩
 cases dR
 refine b9 (λh=>?_) (λh=>?_)
 ·have b8:i<l.length:=by omega
  have hp:=b8k b8 []
  have kK:=Ue (l.take i) (C:=[]) List.Pairwise.nil
  have EH:=Ud (l.take i) []
  rw[List.length_take,List.length_nil]at EH
  refine zK hS Xh jG hv (x:=l[i]) (by simp[b8]) b8 ?_
  generalize l[i]=r at *
  have hP:(pS [] (l.take i)).length<=1000000:=by omega
  clear EH
  generalize pS [] (l.take i)=P at *
  obtain⟨rk,rv⟩:=r
  rw[D2]
  refine Gm λb w hS=>?_
  refine Cc (YE xb P rk kK hP rv) ?_;clear hS
  rintro u post ⟨⟨q,rfl⟩,rfl⟩ w hS
  (try simp only[app]at hS);refine Gp ?_
  rw[<- hp]at hS
  exact⟨⟨i+1,rfl,by omega,aR hS⟩,by dsimp only;omega⟩
 ·obtain rfl:i=l.length:=by omega
  rw[List.take_length]at hS
  exact⟨_,⟨xb,rfl,rfl⟩,aR hS⟩
structure f_ where
 file:Int
 first:Int
 size:Nat
 es:List oL
 a:Option Addr
 c:Nat
def f_.lv(x:f_):Value:=.slice x.a x.es.length x.c
def f_.pl(x:f_):g6:=⟨x.file,x.first,x.size,nH x.es⟩
def jw(x:f_):List Value:=[.int .i64 x.file,.int .i64 x.first,.int .i64 x.size,x.lv]
theorem vY(x:f_):(jw x).length=4:=rfl
theorem tG(es:List oL):(nH es).length=es.length:=by simp[nH]
def ia(x:f_):zE:=zU True [.ob (g8 x.lv 62 1 x.es.length (jB x.es)),.ob (zi jN x.es)]
theorem ia.iff{W w:World}{x:f_}{l:List Chunk}:SL W (.ob (ia x)::l) w↔SL W (.ob (g8 x.lv 62 1 x.es.length (jB x.es))::.ob (zi jN x.es)::l) w:=by
 unfold ia
 simp only[SL.fact,List.cons_append,List.nil_append,true_and]
def ku(v:Value)(t:Option w8):zE:=match t with
 | none=>zU (v= .pointer none) []
 | some x=>nr λb:Nat=>zU (v= .pointer (some ⟨b,0,none⟩)) [.pt b [.int .i64 x.file,.int .i64 x.oS,.bool x.fresh] 408]
theorem BI{W w:World}{v:Value}{l:List Chunk}:SL W (.ob (ku v none)::l) w↔v= .pointer none/\SL W l w:=by
 unfold ku
 simp only[SL.fact,List.nil_append]
theorem F0{W w:World}{v:Value}{x:w8}{l:List Chunk}:SL W (.ob (ku v (some x))::l) w↔∃b:Nat,v= .pointer (some ⟨b,0,none⟩)/\SL W (.pt b [.int .i64 x.file,.int .i64 x.oS,.bool x.fresh] 408::l) w:=by
 unfold ku
 simp only[SL.ex,SL.fact,List.cons_append,List.nil_append]
abbrev j8(sv tv:Value)(dp:Nat)(base size:Int):List Value:=[sv,.pointer (some ⟨dp,0,none⟩),.int .i64 base,.int .i64 size,tv]
abbrev j1(sv:Value)(xs:List f_):Chunk:=.ob (g8 sv 228 4 xs.length (xs.map jw).flatten)
abbrev JO(lp dp:Nat)(base size:Int)(t:Option w8)(sv tv:Value)(xs:List f_):List Chunk:=[.pt lp (j8 sv tv dp base size) 148,j1 sv xs,.ob (zi ia xs),.ob (ku tv t)]
def iM(lp dp:Nat)(g:iq):zE:=nr λx:Value × Value × List f_=>zU (x.2.2.map f_.pl=g.bW) (JO lp dp g.base g.size g.iw x.1 x.2.1 x.2.2)
theorem iM.iff{W w:World}{lp dp:Nat}{g:iq}{l:List Chunk}:SL W (.ob (iM lp dp g)::l) w↔∃sv tv xs,xs.map f_.pl=g.bW/\SL W (.pt lp (j8 sv tv dp g.base g.size) 148::j1 sv xs::.ob (zi ia xs)::.ob (ku tv g.iw)::l) w:=by
 unfold iM JO
 simp only[SL.ex,SL.fact,List.cons_append,List.nil_append]
 exact⟨λ⟨x,h1,h2⟩=>⟨x.1,x.2.1,x.2.2,h1,h2⟩,λ⟨a,b,c,h1,h2⟩=>⟨(a,b,c),h1,h2⟩⟩
section
variable {W w:World} {l:List Chunk}
theorem qg{v:Value}{xs:List f_}{j:Nat}{k:IntKind}{K:Value->Prop}(h:SL W l w)(m:Has (j1 v xs) l)(hj:j<xs.length)(hK:K (.agg (jw xs[j]).toArray)):ze 4 v (.int k (j:Int)) λp=>zh 4 p w K:=by
 refine yF h m hj λb o hb=>⟨⟨b,o,none⟩,jw xs[j],rfl,rfl,λi u hu=>?_,hK⟩
 rw[Addr.add_lit]
 have hi:i<4:=(List.getElem?_eq_some_iff.1 hu).1
 exact hb i u hi (xw vY hj hu)
theorem UK{v u:Value}{xs:List f_}{i j:Nat}{k:IntKind}{K:Value->Prop}(h:SL W l w)(m:Has (j1 v xs) l)(hj:j<xs.length)(hu:(jw xs[j])[i]?=some u)(hK:K u):ze 4 v (.int k (j:Int)) λp=>zq i p λq=>cI q w K:=by
 refine yF h m hj λb o hb=>?_
 refine zW ?_
 have hi:i<4:=(List.getElem?_eq_some_iff.1 hu).1
 exact⟨_,u,rfl,hb i u hi (xw vY hj hu),hK⟩
end
theorem Rf(xs:List f_):(xs.map jw).flatten.length=xs.length*4:=by
 induction xs with
 | nil=>rfl
 | cons x xs ih=>simp[ih,vY];omega
theorem y5(f n s:Int)(a:Option Addr)(k c:Nat)(h : -1000000000000000<=n/\n<=1000000000000000)(hk:k<=1000000000000000):SP 152 [.agg #[.int .i64 f,.int .i64 n,.int .i64 s,.slice a k c]] [] (eW (.int .i64 (n+k)) []):=by
 intro W F w hS;apply cR4;delta KM a_;(try simp only[app]at hS)
 refine⟨[.int .i64 f,.int .i64 n,.int .i64 s,.slice a k c],rfl,?_⟩
 refine Gm λb w hS=>?_
 (exact fw hS)
theorem Z8(x:f_){N:Nat}(h:m_ x.pl N)(hN:N<=1000000000000000):SP 152 [.agg (jw x).toArray] [] (eW (.int .i64 x.pl.next) []):=by
 have h1:=h.n0;have h2:=h.n1;have h3:=h.ln
 have e:x.pl.next=x.first+x.es.length:=by simp[g6.next,f_.pl,tG]
 rw[e]
 have h3:x.es.length<=N:=by simpa [f_.pl,tG] using h3
 exact y5 x.file x.first x.size x.a x.es.length x.c (by simp only[f_.pl]at h1 h2;omega) (by omega)
theorem yq(lp:Nat)(cs:List Value)(t:TypeId)(sv:Value)(xs:List f_)(pN:cs[0]?=some sv){N:Nat}(h:∀s∈xs.map f_.pl,m_ s N)(hN:N<=1000000000000000)(hl:xs.length<=1000000000000000):
  SP 69 [.pointer (some ⟨lp,0,none⟩)] [.pt lp cs t,j1 sv xs] (eW (.int .i64 (c_ (xs.map f_.pl))) [.pt lp cs t,j1 sv xs]):=by
 intro W F w hS;apply dR2;delta Ob aF bF ai;(try simp only[app]at hS)
 refine Gp ?_
 refine ye hS .hd pN ?_
 refine zY hS Xh ?_
 refine Gp ?_
 have hh:=uP h
 refine za (λh0=>?_) (λh0=>?_)
 ·have:xs=[]:=List.eq_nil_of_length_eq_zero (by omega)
  subst this
  (exact fw hS)
 ·refine Gn λw hS=>?_
  refine ye hS .hd pN ?_
  refine Gp ?_
  refine ye hS .hd pN ?_
  refine zY hS Xh ?_
  refine Gp ?_
  have e:((xs.length:Nat):Int)-1=((xs.length-1:Nat):Int):=by omega
  rw[e]
  have hj:xs.length-1<xs.length:=by omega
  refine qg hS Xh hj ?_
  have hm:(xs[xs.length-1]'hj).pl∈xs.map f_.pl:=List.mem_map.2 ⟨_,List.getElem_mem hj,rfl⟩
  have hg:c_ (xs.map f_.pl)=(xs[xs.length-1]'hj).pl.next-1:=by
   unfold c_
   rw[List.getLast?_map,List.getLast?_eq_getElem?,List.getElem?_eq_getElem hj];rfl
  have cR:=h _ hm
  rw[hg]at hh ⊢
  refine Cg (Z8 _ cR hN) λw hS=>?_
  exact fw hS
theorem bIu(lp:Nat)(cs:List Value)(t:TypeId)(sv:Value)(xs:List f_)(pN:cs[0]?=some sv)(hl:xs.length<=1000000000000000):
  SP 70 [.pointer (some ⟨lp,0,none⟩)] [.pt lp cs t,j1 sv xs] (eW (.int .i64 (jT (xs.map f_.pl))) [.pt lp cs t,j1 sv xs]):=by
 intro W F w hS;apply dR3;delta Oc aF bF a_ ai;(try simp only[app]at hS)
 refine Gp ?_
 refine ye hS .hd pN ?_
 refine zY hS Xh ?_
 refine b9 (λh0=>?_) (λh0=>?_)
 ·have:xs=[]:=List.eq_nil_of_length_eq_zero (by omega)
  subst this
  (exact fw hS)
 ·cases xs with
  | nil=>simp at h0
  | cons x xs=>
   refine Gp ?_
   refine ye hS .hd pN ?_
   refine UK (j:=0) (i:=1) hS Xh (by simp) (u:=.int .i64 x.first) rfl ?_
   exact⟨_,⟨rfl,rfl⟩,hS⟩
theorem zi.back{W w:World}{l:List Chunk}{α:Type}{A:α->zE}{xs:List α}{t:Nat}{x:α}(h:SL W (.ob (A x)::.ob (zi A (xs.eraseIdx t))::l) w)(hx:xs[t]?=some x):SL W (.ob (zi A xs)::l) w:=by
 obtain⟨ht,e⟩:=List.getElem?_eq_some_iff.1 hx
 have:=zi.put h ht
 rwa [<- e,List.set_getElem_self]at this
theorem Vx(x:f_):x.pl.next=x.first+x.es.length:=by simp[g6.next,f_.pl,tG]
theorem b9x(xs:List f_)(i:Nat)(n:Int):lE ((xs.drop i).map f_.pl) n=match xs[i]? with
 | none=>none
 | some x=>if x.first<=n/\n<x.pl.next then (nH x.es)[(n-x.first).toNat]? else lE ((xs.drop (i+1)).map f_.pl) n:=by
 cases h:xs[i]? with
 | none=>
  have:xs.drop i=[]:=List.drop_eq_nil_of_le (by rw[List.getElem?_eq_none_iff]at h;exact h)
  rw[this];rfl
 | some x=>
  obtain⟨hi,e⟩:=List.getElem?_eq_some_iff.1 h
  rw[List.drop_eq_getElem_cons hi,e];rfl
def BE(pre:List Chunk)(o:Option (List UInt8))(r:Value)(post:List Chunk):Prop:=match o with
 | none=>r= .tuple #[.slice none 0 0,.int .i64 5]/\post=pre
 | some b=>∃u,r= .tuple #[u,.int .i64 0]/\post= .ob (bI u 5 1 b.length (b.map fI))::pre
theorem QR(lp:Nat)(cs:List Value)(t:TypeId)(sv:Value)(xs:List f_)(n:Int)(pN:cs[0]?=some sv){N:Nat}(h:∀s∈xs.map f_.pl,m_ s N)(hN:N<=1000000000000000)(hl:xs.length<=1000000000000000)(hn : -9000000000000000000<=n/\n<=9000000000000000000):
  SP 71 [.pointer (some ⟨lp,0,none⟩),.int .i64 n] [.pt lp cs t,j1 sv xs,.ob (zi ia xs)] (BE [.pt lp cs t,j1 sv xs,.ob (zi ia xs)] (lE (xs.map f_.pl) n)):=by
 intro W F w hS;apply dR4;delta Od aF bF a_ ai bR;(try simp only[app]at hS)
 refine Gp ?_
 refine ye hS .hd pN ?_
 refine zY hS Xh ?_
 refine⟨λvs w=>∃i:Nat,i<=xs.length/\vs=[.int .i64 i]/\lE (xs.map f_.pl) n=lE ((xs.drop i).map f_.pl) n/\SL W (.pt lp cs t::j1 sv xs::.ob (zi ia xs)::F) w,λvs _=>match vs with
  | [.int _ i]=>xs.length-i.toNat
  | _=>0,⟨0,by omega,rfl,rfl,hS⟩,?_⟩
 clear hS
 rintro v1 w1 ⟨i,hi,hv,hr,hS⟩
 cases hv
 rw[b9x]at hr
 refine b9 (λh0=>?_) (λh0=>?_)
 ·have hj:i<xs.length:=by omega
  have hx:xs[i]?=some xs[i]:=List.getElem?_eq_getElem hj
  refine qg hS Xh hj ?_
  have cR:=h _ (List.mem_map.2 ⟨_,List.getElem_mem hj,rfl⟩)
  rw[hx]at hr
  simp only at hr
  generalize xs[i]=x at *
  have rW:=Vx x
  unfold jw f_.lv
  refine Gm λb w hS=>?_
  refine za (λh1=>?_) (λh1=>?_)
  ·refine Gp ?_
   refine Cg (Z8 x cR hN) λw hS=>?_
   refine za (λh2=>?_) (λh2=>?_)
   ·rw[if_pos ⟨h1,h2⟩]at hr
    have AS:=cR.n0
    have hh2:=cR.n1
    simp only[f_.pl]at AS hh2
    refine Gp ?_
    obtain⟨j,Ho⟩:=Int.eq_ofNat_of_zero_le (show 0<=n-x.first by omega)
    have jI:j<x.es.length:=by omega
    rw[Ho]at hr ⊢
    have hS:=zi.take (SL.b_ hS (t:=.ob (zi ia xs)::.pt lp cs t::j1 sv xs::F) Xi) hx
    have hS:=ia.iff.1 hS
    unfold f_.lv at hS
    refine yF (j:=j) hS .hd jI λb o hb=>?_
    have Co:x.es[j]?=some x.es[j]:=List.getElem?_eq_getElem jI
    have pA:(jB x.es)[j*1+0]?=some x.es[j].1:=by simp[jB,jI]
    refine⟨_,_,rfl,hb 0 _ (by omega) pA,?_⟩
    have hS:=zi.take (SL.b_ hS (t:=.ob (zi jN x.es)::.ob (g8 (.slice x.a x.es.length x.c) 62 1 x.es.length (jB x.es))::.ob (zi ia (xs.eraseIdx i))::.pt lp cs t::j1 sv xs::F) Xi) Co
    have vx:x.es[j].2.length<=1048576:=cR.bl _ (List.mem_map.2 ⟨_,List.getElem_mem jI,rfl⟩)
    have Hd:(nH x.es)[((j:Int)).toNat]?=some x.es[j].2:=by simp[nH,jI]
    rw[Hd]at hr
    rw[hr]
    generalize x.es[j]=e at *
    have hR:ix (.ob (jN e)) e.1 e.2:=ix.own
    obtain⟨ea,ec,ee,_⟩:=hR.sl hS .hd
    have l_:=hR
    rw[ee]at l_ ⊢
    refine Zu (cs:=e.2.map fI) hS (λw' c kL=>l_.src kL (.tl .hd)) (by simp) (nE _) (by omega) ?_
    clear hS;intro u w hS _
    have hS:=zi.back (SL.b_ hS (t:=.ob (jN e)::.ob (zi jN (x.es.eraseIdx j))::.ob (g8 (.slice x.a x.es.length x.c) 62 1 x.es.length (jB x.es))::.ob (bI u 5 1 e.2.length (e.2.map fI))::.ob (zi ia (xs.eraseIdx i))::.pt lp cs t::j1 sv xs::F) Xi) Co
    have hS:=(ia.iff (x:=x)).2 (SL.b_ hS (t:=.ob (g8 (.slice x.a x.es.length x.c) 62 1 x.es.length (jB x.es))::.ob (zi jN x.es)::.ob (bI u 5 1 e.2.length (e.2.map fI))::.ob (zi ia (xs.eraseIdx i))::.pt lp cs t::j1 sv xs::F) Xi)
    have hS:=zi.back (SL.b_ hS (t:=.ob (ia x)::.ob (zi ia (xs.eraseIdx i))::.ob (bI u 5 1 e.2.length (e.2.map fI))::.pt lp cs t::j1 sv xs::F) Xi) hx
    exact⟨.ob (bI u 5 1 e.2.length (e.2.map fI))::[.pt lp cs t,j1 sv xs,.ob (zi ia xs)],⟨u,rfl,rfl⟩,aR hS⟩
   ·rw[if_neg (by omega)]at hr
    refine Gp ?_
    refine⟨⟨i+1,by omega,rfl,hr,aR hS⟩,?_⟩
    simp only[Int.toNat_natCast];omega
  ·rw[if_neg (by omega)]at hr
   refine Gp ?_
   refine⟨⟨i+1,by omega,rfl,hr,aR hS⟩,?_⟩
   simp only[Int.toNat_natCast];omega
 ·have hx:xs[i]?=none:=List.getElem?_eq_none (by omega)
  rw[hx]at hr
  rw[hr]
  exact⟨_,⟨rfl,rfl⟩,hS⟩
def tK(p:Nat × List Row):List Value:=[eF p.1]
theorem AD(p:Nat × List Row):(tK p).length=1:=rfl
abbrev nt(v:Value)(L:List (Nat × List Row)):Chunk:=.ob (bI v 162 1 L.length (L.map tK).flatten)
def jD(sp:Nat)(ts:List (List Row)):zE:=nr λx:Value × List (Nat × List Row)=>zU (x.2.map Prod.snd=ts) [.pt sp [x.1] 165,nt x.1 x.2,.ob (zi jO x.2)]
theorem jD.iff{W w:World}{sp:Nat}{ts:List (List Row)}{l:List Chunk}:SL W (.ob (jD sp ts)::l) w↔∃v L,L.map Prod.snd=ts/\SL W (.pt sp [v] 165::nt v L::.ob (zi jO L)::l) w:=by
 unfold jD
 simp only[SL.ex,SL.fact,List.cons_append,List.nil_append]
 exact⟨λ⟨x,h1,h2⟩=>⟨x.1,x.2,h1,h2⟩,λ⟨v,L,h1,h2⟩=>⟨(v,L),h1,h2⟩⟩
theorem jD.put{W w:World}{sp:Nat}{v:Value}{L:List (Nat × List Row)}{ts:List (List Row)}{l F:List Chunk}(hL:L.map Prod.snd=ts)(hS:SL W l w)(p:kI [.pt sp [v] 165,nt v L,.ob (zi jO L)] l F):SL W (.ob (jD sp ts)::F) w:=jD.iff.2 ⟨v,L,hL,hS.pick p⟩
theorem wV{L:List (Nat × List Row)}{ts:List (List Row)}(h:L.map Prod.snd=ts):L.length=ts.length:=by rw[<- h,List.length_map]
theorem Dk{L:List (Nat × List Row)}{ts:List (List Row)}(h:L.map Prod.snd=ts){i:Nat}(hi:i<ts.length):∃b,L[i]?=some (b,ts[i]):=by
 subst h
 have hl:i<L.length:=by simpa using hi
 exact⟨L[i].1,by rw[List.getElem?_eq_getElem hl];simp⟩
theorem UU{L:List (Nat × List Row)}{ts:List (List Row)}(h:L.map Prod.snd=ts)(i:Nat)(b:Nat)(C:List Row):(L.set i (b,C)).map Prod.snd=ts.set i C:=by
 rw[<- h,List.map_set]
theorem one_set{L:List (Nat × List Row)}{i b:Nat}{C D:List Row}(h:L[i]?=some (b,C)):(L.set i (b,D)).map tK=L.map tK:=by
 refine List.ext_getElem (by simp) λj h1 h2=>?_
 simp only[List.length_map,List.length_set]at h1
 rw[List.getElem_map,List.getElem_map,List.getElem_set]
 split
 ·rename_i e
  subst e
  rw[List.getElem?_eq_getElem h1]at h
  rw[Option.some.inj h];rfl
 ·rfl
theorem nt.set{W w:World}{v:Value}{L:List (Nat × List Row)}{i b:Nat}{C D:List Row}{l:List Chunk}(h:L[i]?=some (b,C))(hS:SL W (nt v L::l) w):SL W (nt v (L.set i (b,D))::l) w:=by
 have e:=one_set (D:=D) h
 have e2:(L.set i (b,D)).length=L.length:=List.length_set
 unfold nt
 rw[e,e2];exact hS
section
variable (sp:Nat) (ts:List (List Row))
theorem yZ:SP 59 [eF sp] [.ob (jD sp ts)] (eW (.int .i64 (ts.length:Nat)) [.ob (jD sp ts)]):=by
 intro W F w hS;apply dRu;delta N5 bF;(try simp only[app]at hS)
 obtain⟨v,L,hL,hS⟩:=jD.iff.1 hS
 rw[<- wV hL]
 refine Gp ?_
 refine zx hS Xh ?_
 exact⟨_,⟨rfl,rfl⟩,SL.b_ (jD.put hL hS Xp) Xi⟩
theorem Zg(t:Int):SP 81 [eF sp,.int .i64 t] [.ob (jD sp ts)] (eW (.bool (decide (0<=t/\t<ts.length))) [.ob (jD sp ts)]):=by
 intro W F w hS;apply dWd;delta Om aF bF cw ai;(try simp only[app]at hS)
 obtain⟨v,L,hL,hS⟩:=jD.iff.1 hS
 have hl:=wV hL
 refine b9 (λh=>?_) (λh=>?_)
 ·refine Gp ?_
  refine zx hS Xh ?_
  refine Gp ?_
  rw[show decide (0<=t/\t<(ts.length:Int))=decide (t<(L.length:Int)) from decide_eq_decide.2 ⟨λh=>by omega,λh=>by omega⟩]
  exact⟨_,⟨rfl,rfl⟩,SL.b_ (jD.put hL hS Xp) Xi⟩
 ·rw[show decide (0<=t/\t<(ts.length:Int))=false from decide_eq_false λh=>by omega]
  exact⟨_,⟨rfl,rfl⟩,SL.b_ (jD.put hL hS Xp) Xi⟩
theorem Jj{ts:List (List Row)}{t:Int}(h:¬(0<=t/\t<ts.length)):lz ts t=[]:=by
 unfold lz
 split
 ·rfl
 ·rw[List.getElem?_eq_none (by omega)];rfl
theorem Qq(t key n:Int)(hn:∀C∈ts,C.length<=1000000)(hs:∀C∈ts,kB C)(h1 : -1000000<=n)(h2:n<=9000000000000000000):SP 83 [eF sp,.int .i64 t,.int .i64 key,.int .i64 n] [.ob (jD sp ts)] (λu post=>post=[jC u (oy (lz ts t) key n),.ob (jD sp ts)]):=by
 intro W F w hS;apply dWe;delta On bF a_ dW bR;(try simp only[app]at hS)
 refine Cg (Zg sp ts t) λw hS=>?_
 refine zz (λh=>?_) (λh=>?_)
 ·rw[Jj (of_decide_eq_false h),show oy [] key n=[] by simp[oy]]
  exact⟨_,rfl,bI.nil hS⟩
 ·obtain⟨h0,h3⟩:=of_decide_eq_true h
  obtain⟨t,rfl⟩:∃n:Nat,t=n:=⟨t.toNat,by omega⟩
  have ht:t<ts.length:=by omega
  rw[rB ts t ht]
  obtain⟨v,L,hL,hS⟩:=jD.iff.1 hS
  obtain⟨b,hb⟩:=Dk hL ht
  have hl:=wV hL
  refine Gp ?_
  refine zJ hS Xh AD hb (by omega) (i:=0) rfl ?_
  have hS:=zi.take (SL.b_ hS (t:=.ob (zi jO L)::.pt sp [v] 165::nt v L::F) Xi) hb
  refine Cc (qy b ts[t] key (hs _ (List.getElem_mem ht)) (hn _ (List.getElem_mem ht)) n h1 h2) ?_;clear hS
  rintro u post rfl w hS
  try simp only[app]at hS
  have hS:=zi.back (SL.b_ hS (t:=.ob (jO (b,ts[t]))::.ob (zi jO (L.eraseIdx t))::jC u (oy ts[t] key n)::.pt sp [v] 165::nt v L::F) Xi) hb
  exact⟨_,rfl,SL.b_ (jD.put hL hS Xp) Xi⟩
end
def BA(n:Int)(u:Value)(post:List Chunk):Prop:=if n<1\/8<n then u= .tuple #[.pointer none,.int .i64 1]/\post=[] else ∃sp,u= .tuple #[eF sp,.int .i64 0]/\post=[.ob (jD sp (List.replicate n.toNat []))]
theorem cF5(n:Int):SP 54 [.int .i64 n] [] (BA n):=by
 intro W F w hS;apply dRq;delta N0 aF fR aW d_ ai gw bR;(try simp only[app]at hS)
 refine Gp ?_
 refine za (λh=>⟨[],by unfold BA;rw[if_pos (.inl h)];exact⟨rfl,rfl⟩,hS⟩) (λh1=>?_)
 refine Gp ?_
 refine za (λh=>⟨[],by unfold BA;rw[if_pos (.inr h)];exact⟨rfl,rfl⟩,hS⟩) (λh2=>?_)
 refine Gp ?_
 refine zC hS λsp w hS=>?_
 have hS:SL W (nt (.slice none 0 0) []::_) _:=bI.nil hS
 have hS:SL W (.ob (zi jO [])::_) _:=zi.nil hS
 refine⟨λus w=>∃(i:Nat) (v:Value) (L:List (Nat × List Row)),us=[.int .i64 i]/\i<=n/\L.map Prod.snd=List.replicate i []/\SL W (.pt sp [v] 165::nt v L::.ob (zi jO L)::F) w,
  λus _=>match us with|[.int _ i]=>(n-i).toNat|_=>0,⟨0,_,[],rfl,by omega,rfl,aR hS⟩,?_⟩
 clear hS
 rintro FI w ⟨i,v,L,dR,hi,hL,hS⟩
 cases dR
 have hl:=wV hL
 rw[List.length_replicate]at hl
 refine b9 (λh=>?_) (λh=>?_)
 ·refine Gn λw hS=>?_
  have hS:=SL.Iv hS
  refine Cc (YD bw.emp (.slice none 0 0) [] (fW.nil _ _) (by decide)) ?_;clear hS
  rintro u post ⟨xb,rfl,rfl⟩ w hS
  refine Gm λb w hS=>?_
  refine zX (n:=L.length) (xs:=L) (y:=(xb,[])) (enc:=tK) hS Xr Xh AD (λx=>by simp[tK,Value.oneCell']) rfl (by omega) (by omega) λu w hS=>?_
  have n3:=bI.one hS
  refine Gn λw hS=>?_
  refine⟨⟨i+1,u,L++[(xb,[])],rfl,by omega,by rw[List.map_append,hL,List.replicate_succ'];rfl,?_⟩,by dsimp only;omega⟩
  have hS:=hS.o9 (x:=(xb,([]:List Row)))
  rw[show pS [] []=[] from rfl]at hS
  have hS:=zi.snoc (SL.b_ hS (t:=.ob (zi jO L)::.ob (jO (xb,[]))::.pt sp [u] 165::nt u (L++[(xb,[])])::F) Xi)
  exact aR hS
 ·refine⟨[.ob (jD sp (List.replicate n.toNat []))],?_,SL.b_ (jD.put (ts:=List.replicate n.toNat []) (by rw[hL];congr 1;omega) hS Xp) Xi⟩
  unfold BA
  rw[if_neg (by omega)]
  exact⟨sp,rfl,rfl⟩
theorem Wc{ts:List (List Row)}(h:∀C∈ts,kB C){c:iy}(ht:kJ ts.length c=true):∀C∈mJ ts c,kB C:=λC hC=>by
 rcases Iw hC with hC|rfl
 ·exact h C hC
 ·have h1:=h _ (FE (of_decide_eq_true ht))
  unfold nC
  split
  ·exact U0 h1 _
  ·exact Jb h1 _
theorem DL:∀{l:List iy} {ts:List (List Row)},(∀C∈ts,kB C)->(∀c∈l,kJ ts.length c=true)->∀C∈jS ts l,kB C
 | [],ts,h,_=>h
 | c::l,ts,h,h2=>by
  show ∀C∈jS (mJ ts c) l,kB C
  refine DL (Wc h (h2 c (.head _))) λx hx=>?_
  rw[xd];exact h2 x (.tail _ hx)
theorem cFz(b:Nat)(C D:List Row)(c:iy)(hs:kB C)(hn:C.length<=1000000):SP 221 [agg (tK (b,D)),agg (jE c)] [.ob (jO (b,C))] (λ_ post=>post=[.ob (jO (b,nC C c))]):=by
 intro W F w hS;apply c_0;delta LQ a_;(try simp only[app]at hS)
 refine zC hS λxb w hS=>?_
 refine zC hS λyb w hS=>?_
 unfold jE tK at hS
 obtain⟨ct,ck,cg,cv⟩:=c
 refine Gp ?_
 cases cg with
 | true=>
  refine zw ?_
  refine Gp ?_
  refine Cc (bwr b C ck hs hn) ?_;clear hS
  rintro u post ⟨⟨q,rfl⟩,rfl⟩ w hS
  try simp only[app]at hS
  have hS:SL W (.ob (jO (b,nC C ⟨ct,ck,true,cv⟩))::_::_::F) _:=hS
  exact⟨_,rfl,aR hS⟩
 | false=>
  refine zt ?_
  refine Gp ?_
  refine Cc (YE b C ck hs hn cv) ?_;clear hS
  rintro u post ⟨⟨q,rfl⟩,rfl⟩ w hS
  try simp only[app]at hS
  have hS:SL W (.ob (jO (b,nC C ⟨ct,ck,false,cv⟩))::_::_::F) _:=hS
  exact⟨_,rfl,aR hS⟩
section
variable (sp:Nat) (ts:List (List Row)) (H:bw) (v:Value) (l:List iy) (hv:fW H 4 v l.length (l.map jE).flatten) (hl:l.length<=140737488351232)
include hv hl
theorem YV:SP 220 [eF sp,v] [.ob (jD sp ts),.mem H] (eW (.bool (l.all (kJ ts.length))) [.ob (jD sp ts),.mem H]):=by
 intro W F w hS;apply c_z;delta LP aF a_ dW cw ai dw;(try simp only[app]at hS)
 refine zn hv ?_
 refine⟨λus w=>∃i:Nat,us=[.int .i64 i]/\i<=l.length/\(∀j (h:j<l.length),j<i->kJ ts.length l[j]=true)/\SL W (.ob (jD sp ts)::.mem H::F) w,λus _=>match us with|[.int _ i]=>(l.length-i).toNat|_=>0,⟨0,rfl,by omega,λj h hj=>by omega,hS⟩,?_⟩
 clear hS
 rintro v9 w ⟨i,dR,hi,iD,hS⟩
 cases dR
 refine b9 (λh=>?_) (λh=>?_)
 ·have b8:i<l.length:=by omega
  refine zK hS Xh mP hv (x:=l[i]) (by simp[b8]) b8 ?_
  have hq:kJ ts.length l[i]=decide (0<=l[i].table/\l[i].table<(ts.length:Int)):=rfl
  have hf:kJ ts.length l[i]=false->l.all (kJ ts.length)=false:=λh=>List.all_eq_false.2 ⟨_,List.getElem_mem b8,by rw[h];decide⟩
  have Ha:kJ ts.length l[i]=true->∀j (h:j<l.length),j<i+1->kJ ts.length l[j]=true:=λh j hj ll=>by
   by_cases e:j=i
   ·subst e;exact h
   ·exact iD j hj (by omega)
  clear iD
  generalize l[i]=c at *
  obtain⟨ct,ck,cg,cv⟩:=c
  refine Gm λb w hS=>?_
  refine Cg (Zg sp ts ct) λw hS=>?_
  refine zz (λhb=>?_) (λhb=>?_)
  ·rw[hf (by rw[hq];exact hb)]
   (exact fw hS)
  ·refine Gp ?_
   refine⟨⟨i+1,rfl,by omega,Ha (by rw[hq];exact hb),aR hS⟩,by dsimp only;omega⟩
 ·rw[show l.all (kJ ts.length)=true from List.all_eq_true.2 λc hc=>by
   obtain⟨j,hj,rfl⟩:=List.getElem_of_mem hc
   exact iD j hj (by omega)]
  (exact fw hS)
theorem ZT(hs:∀C∈ts,kB C)(N:Nat)(hn:∀C∈ts,C.length<=N)(hN:N+l.length<=1000000):SP 142 [eF sp,v] [.ob (jD sp ts),.mem H] (eW (.bool (l.all (kJ ts.length))) [.ob (jD sp (if l.all (kJ ts.length)=true then jS ts l else ts)),.mem H]):=by
 intro W F w hS;apply cRu;delta KC aF bF a_ dW cw ai dw;(try simp only[app]at hS)
 refine Cg (YV sp ts H v l hv hl) λw hS=>?_
 cases ha:l.all (kJ ts.length) with
 | false=>
  refine zw ?_
  rw[if_neg (by decide)]
  (exact fw hS)
 | true=>
  refine zt ?_
  rw[if_pos rfl]
  have ha:=List.all_eq_true.1 ha
  refine zn hv ?_
  refine⟨λus w=>∃i:Nat,us=[.int .i64 i]/\i<=l.length/\SL W (.ob (jD sp (jS ts (l.take i)))::.mem H::F) w,λus _=>match us with|[.int _ i]=>(l.length-i).toNat|_=>0,⟨0,rfl,by omega,hS⟩,?_⟩
  clear hS
  rintro wY w ⟨i,dR,hi,hS⟩
  cases dR
  refine b9 (λh=>?_) (λh=>?_)
  ·have b8:i<l.length:=by omega
   have kK:jS ts (l.take (i+1))=mJ (jS ts (l.take i)) l[i]:=by rw[List.take_succ_eq_append_getElem b8,F8]
   have py:=ha _ (List.getElem_mem b8)
   have sC:=uy ts (l.take i)
   have uN:=DL (l:=l.take i) hs λc hc=>ha c (List.mem_of_mem_take hc)
   have sD:=Ap N (l:=l.take i) hn λc hc=>ha c (List.mem_of_mem_take hc)
   have HW:(l.take i).length<=l.length:=by rw[List.length_take];omega
   generalize jS ts (l.take i)=T at *
   refine zK hS Xh mP hv (x:=l[i]) (by simp[b8]) b8 ?_
   generalize l[i]=c at *
   obtain⟨ct,ck,cg,cv⟩:=c
   obtain⟨h0,h1⟩:0<=ct/\ct<(ts.length:Int):=of_decide_eq_true py
   obtain⟨t,rfl⟩:∃n:Nat,ct=n:=⟨ct.toNat,by omega⟩
   have ht:t<T.length:=by omega
   have CV:T[t]∈T:=List.getElem_mem ht
   obtain⟨pv,L,hL,hS⟩:=jD.iff.1 hS
   obtain⟨b0,hb⟩:=Dk hL ht
   have G8:=wV hL
   refine Gm λb w hS=>?_
   refine yd hS Xh AD hb (by omega) ?_
   refine Gp ?_
   have hS:=zi.take (SL.b_ hS (t:=.ob (zi jO L)::.pt sp [pv] 165::nt pv L::.mem H::F) Xi) hb
   refine Cc (cFz b0 T[t] T[t] ⟨t,ck,cg,cv⟩ (uN _ CV) (by have:=sD _ CV;omega)) ?_;clear hS
   rintro u post rfl w hS
   (try simp only[app]at hS);refine Gp ?_
   have hS:=zi.put hS (by omega)
   have hS:=nt.set (D:=nC T[t] ⟨t,ck,cg,cv⟩) hb (SL.b_ hS (t:=nt pv L::.ob (zi jO (L.set t (b0,nC T[t] ⟨t,ck,cg,cv⟩)))::.pt sp [pv] 165::.mem H::F) Xi)
   refine⟨⟨i+1,rfl,by omega,?_⟩,by dsimp only;omega⟩
   rw[kK]
   refine SL.b_ (jD.put (ts:=mJ T ⟨t,ck,cg,cv⟩) ?_ hS Xp) Xi
   rw[UU hL t b0]
   unfold mJ
   rw[rB T t ht]
   rfl
  ·obtain rfl:i=l.length:=by omega
   rw[List.take_length]at hS
   (exact fw hS)
end
structure By{κ:Type}[DecidableEq κ](P:Program)(kt:TypeId)(key:κ->Value):Prop where
 wide:∃fs,P.underlying kt=some (.struct fs)
 check:∀(k:κ) (em:Bool) (w:World),(Instr.checkKey em 10000 kt (key k)).run P w= .ok () w
 eq:∀(a b:κ) (w:World),(Op.equal kt (key a) (key b)).run P w= .ok (decide (a=b)) w
 stays:∀(k:κ) (w:World),(Instr.keyThatStays (key k) (key k)).run P w= .ok (key k) w
 inj:∀{a b:κ},key a=key b->a=b
section
variable {W w:World} {l l':List Chunk} {κ α:Type} [DecidableEq κ] {key:κ->Value} {val:α->Value} {b:Nat} {m:List (κ × α)} {P:Program} {t kt et:TypeId} {z:Value} {k:κ}
theorem D5(ok:By P kt key)(k:κ)(es:List MapEntry):(Instr.findKey kt (key k) es).run P w=(Instr.findAsking kt (key k) es).run P w:=by
 obtain⟨fs,hd⟩:=ok.wide
 cases es with
 | nil=>simp[Instr.findKey,run_underlying hd,Result.andThen,Instr.findNow,Instr.findAsking]
 | cons e es=>simp[Instr.findKey,run_underlying hd,Result.andThen,Instr.findNow,Instr.sameNow]
theorem GR(ok:By P kt key)(k:κ):∀(es:List MapEntry) (m:List (κ × α)) (i:Nat),es.map kv=m.map (kw key val) ->
  ((Instr.findAsking kt (key k) es i).run P w= .ok none w/\lx m k=none/\(∀v,mD m k v=m++[(k,v)])/\∀x∈es,x.key≠key k) \/
  ∃j e a,(Instr.findAsking kt (key k) es i).run P w= .ok (some (i+j,val a)) w/\es[j]?=some e/\e.key=key k/\lx m k=some a /\
   (∀v,(es.modify j λe=>{e with key:=key k,val:=val v}).map kv=(mD m k v).map (kw key val))
 | [],[],_,_=>.inl ⟨rfl,rfl,λ_=>rfl,by simp⟩
 | [],_::_,_,h=>by simp at h
 | _::_,[],_,h=>by simp at h
 | e::es,p::m,i,h=>by
  simp only[List.map_cons,List.cons.injEq]at h
  obtain⟨h1,h2⟩:=h
  obtain⟨x,y⟩:=p
  simp only[kv,kw,Prod.mk.injEq]at h1
  obtain⟨rP,AM⟩:=h1
  have hq:=ok.eq k x w
  by_cases hx:x=k
  ·subst hx
   rw[decide_eq_true rfl]at hq
   refine .inr ⟨0,e,y,by simp[Instr.findAsking,rP,hq,AM,Result.andThen],rfl,rP,by simp[lx],?_⟩
   intro v;simp[mD,kv,kw];exact h2
  ·rw[decide_eq_false (λh=>hx h.symm)]at hq
   rcases GR ok k es m (i+1) h2 with ⟨a1,a2,a3,a5⟩|⟨j,e',a,a1,a2,a3,a4,a5⟩
   ·refine .inl ⟨by simp[Instr.findAsking,rP,hq,a1,Result.andThen],by simp[lx,hx,a2],λv=>by simp[mD,hx,a3],?_⟩
    intro z hz
    rcases List.mem_cons.1 hz with rfl|hz
    ·rw[rP];exact λq=>hx (ok.inj q)
    ·exact a5 z hz
   ·refine .inr ⟨j+1,e',a,by simp[Instr.findAsking,rP,hq,a1,Result.andThen];omega,by simpa using a2,a3,by simp[lx,hx,a4],?_⟩
    intro v;simp[mD,hx,kv,kw,rP,AM];exact a5 v
theorem b_4{K:Value->Prop}(hS:SL W l w)(hm:Has (.ob (j4 key val b m)) l)(ok:By P kt key)(ht:P.underlying t=some (.map kt et))(hz:∀w,(zeroValue et).run P w= .ok z w)
  (h:K (.tuple #[((lx m k).map val).getD z,.bool (lx m k).isSome])):jZ P (Instr.lookup t (.map (some b)) (key k) true) w K:=by
 obtain⟨es,c,e1,e2,hb⟩:=hS.Ba hm
 rcases GR (w:=w) ok k es m 0 e1 with ⟨a1,a2,_,_⟩|⟨j,e,a,a1,_,_,a4,_⟩
 ·refine⟨_,?_,h⟩
  simp[Instr.lookup,run_underlying ht,MapKept.run_getObj_map hb,ok.check,D5 ok,a1,hz,Result.andThen,a2]
 ·refine⟨_,?_,h⟩
  simp[Instr.lookup,run_underlying ht,MapKept.run_getObj_map hb,ok.check,D5 ok,a1,Result.andThen,a4]
theorem b_6{v:α}{K:Value->World->Prop}(hS:SL W l w)(u:kH (.ob (j4 key val b m)) (.ob (j4 key val b (mD m k v))) l l')(ok:By P kt key)(ht:P.underlying t=some (.map kt et))
  (h:∀u w',SL W l' w'->K u w'):z7 P (do Instr.mapUpdate t (.map (some b)) (key k) (val v);pure undef) w K:=by
 obtain⟨es,c,e1,e2,hb⟩:=hS.Ba u.has
 rcases GR (w:=w) ok k es m 0 e1 with ⟨a1,_,a3,a5⟩|⟨j,e,a,a1,a2,a3,_,a5⟩
 ·refine⟨undef,{w with heap:=w.heap.setIfInBounds b (.map (es++[({key:=key k,val:=val v,born:=c}:MapEntry)]).toArray (c+1))},?_,h _ _ (hS.Bb u hb (by rw[a3];simp[e1,kv,kw]) ?_)⟩
  ·simp[Instr.mapUpdate,run_underlying ht,MapKept.run_getObj_map hb,ok.check,D5 ok,a1,MapKept.run_setObj_map _ hb,Result.andThen]
  ·have:=MapKept.stamped_push e2 (key:=key k) (val:=val v) (by simpa using a5)
   simpa using this
 ·refine⟨undef,{w with heap:=w.heap.setIfInBounds b (.map (es.modify j λe=>{e with key:=key k,val:=val v}).toArray c)},?_,h _ _ (hS.Bb u hb (a5 v) ?_)⟩
  ·have hj:es.toArray[j]?=some e:=by simpa using a2
   simp[Instr.mapUpdate,run_underlying ht,MapKept.run_getObj_map hb,ok.check,D5 ok,a1,a2,a3,ok.stays,MapKept.run_setObj_map _ hb,Result.andThen]
  ·have xO:∀e',es.toArray[j]?=some e'->({e' with key:=key k,val:=val v}:MapEntry).key=e'.key:=λe' q'=>by
    have:es[j]?=some e':=by simpa using q'
    rw[a2]at this;cases this;exact a3.symm
   have:=MapKept.stamped_modify e2 j (λe=>{e with key:=key k,val:=val v}) (λ_ _=>rfl) (λe' _ q'=>xO e' q')
   simpa using this
end
def BW(p:Int × Int):List Value:=[.int .i64 p.1,.int .i64 p.2]
def od(p:Int × Int):Value:=agg (BW p)
theorem X2(a b:Int × Int)(w:World):(Op.equal 311 (od a) (od b)).run Tryz.prog w= .ok (decide (a=b)) w:=by
 refine Bn Tryz.underlying311 (by kernel_rfl) ?_
 obtain⟨k1,v1⟩:=a
 obtain⟨k2,v2⟩:=b
 simp[BW,Op.eqFields,part,run_equalIn_int (h:=Tryz.underlying2),run_equalIn_int (h:=Tryz.underlying3),Result.andThen]
 by_cases h0:k1=k2<;>by_cases h1:v1=v2<;>simp[*]
theorem T9:By Tryz.prog 311 od where
 wide:=⟨_,Tryz.underlying311⟩
 check:=λk em w=>by
  obtain⟨a,b⟩:=k
  have h1:(Instr.checkKey em 9999 3 (.int .i64 a)).run Tryz.prog w= .ok () w:=MapKept.run_checkKey (k:=.int .i64 a) Tryz.underlying3 (wK .i64 |>.is a) em 9998
  have h2:(Instr.checkKey em 9999 2 (.int .i64 b)).run Tryz.prog w= .ok () w:=MapKept.run_checkKey (k:=.int .i64 b) Tryz.underlying2 (wK .i64 |>.is b) em 9998
  show (Instr.checkKey em (9999+1) _ _).run Tryz.prog w=_
  unfold Instr.checkKey
  simp[od,BW,run_underlying Tryz.underlying311,part,h1,h2,Result.andThen]
 eq:=X2
 stays:=λk w=>by
  have:Instr.sameBits 10000 (od k) (od k)=true:=by simp[od,BW,Instr.sameBits]
  simp[Instr.keyThatStays,this]
 inj:=λ{a b} h=>by
  obtain⟨a1,a2⟩:=a
  obtain⟨b1,b2⟩:=b
  simp[od,BW]at h
  rw[h.1,h.2]
theorem cwj{W w:World}{l:List Chunk}{α:Type}{enc:α->List Value}{v:Value}{t:TypeId}{sz j:Nat}{k:IntKind}{xs:List α}{y:α}{K:World->Prop}(hS:SL W (.ob (bI v t sz xs.length (xs.map enc).flatten)::l) w)(hn:∀x,(enc x).length=sz)
  (hj:j<xs.length) (h1:∀v∈enc y,v.oneCell'=true) (hK:∀w',SL W (.ob (bI v t sz (xs.set j y).length ((xs.set j y).map enc).flatten)::l) w'->K w'):ze sz v (.int k (j:Int)) λq=>zl sz q (agg (enc y)) w K:=by
 rcases bI.open hS with ⟨_,h0,_⟩|⟨b,cap,rest,rfl,hc,hlen,mW,hS⟩
 ·omega
 have iZ:j*sz+sz<=xs.length*sz:=by
  have:(j+1)*sz<=xs.length*sz:=Nat.mul_le_mul_right _ hj
  rwa [Nat.add_mul,Nat.one_mul]at this
 refine zH hj ?_
 rw[Nat.zero_add]
 refine Qn hS .hd (hn y) (by rw[List.length_append];omega) h1 λw' hS=>hK w' ?_
 have e:((xs.map enc).flatten++rest).take (j*sz)++enc y++((xs.map enc).flatten++rest).drop (j*sz+sz)=((xs.set j y).map enc).flatten++rest:=by
  rw[List.take_append_of_le_length (by omega),List.drop_append_of_le_length (by omega),sA hn,show j*sz+sz=(j+1)*sz by rw[Nat.add_mul,Nat.one_mul],rN hn,List.set_eq_take_append_cons_drop,if_pos hj]
  simp
 rw[e]at hS
 have hl:(xs.set j y).length=xs.length:=List.length_set
 rw[hl]
 exact bI.mk hc (by rw[l8 hn,hl]) mW hS
theorem cF4(sp:Nat)(ts:List (List Row))(H:bw)(v:Value)(t:Nat)(l:List Row)(ht:t<ts.length)(hv:fW H 2 v l.length (l.map iu).flatten)(hs:kB l)(hl:l.length<=100000):
  SP 141 [eF sp,.int .i64 (t:Int),v] [.ob (jD sp ts),.mem H] (eW (.bool true) [.ob (jD sp (ts.set t l)),.mem H]):=by
 intro W F w hS;apply cRt;delta KB aW d_ gw;(try simp only[app]at hS)
 refine Cg (Zg sp ts t) λw hS=>?_
 refine za (λ_=>?_) (λh=>by omega)
 obtain⟨pv,L,hL,hS⟩:=jD.iff.1 hS
 have EE:=wV hL
 obtain⟨b0,hb⟩:=Dk hL ht
 refine Gn λw hS=>?_
 refine Cc (YD H v l hv hl) ?_;clear hS
 rintro u post ⟨xb,rfl,rfl⟩ w hS
 try simp only[app]at hS
 rw[b8j hs]at hS
 refine Gp ?_
 refine cwj (enc:=tK) (y:=(xb,l)) (SL.b_ hS (t:=nt pv L::.ob (zi jO L)::.ob (jO (xb,l))::.pt sp [pv] 165::.mem H::F) Xi) AD (by omega) (by simp[tK,Value.oneCell']) λw hS=>?_
 have hS:=zi.take (SL.b_ hS (t:=.ob (zi jO L)::.ob (jO (xb,l))::.pt sp [pv] 165::nt pv (L.set t (xb,l))::.mem H::F) Xi) hb
 have hS:=zi.put (SL.b_ hS (t:=.ob (jO (xb,l))::.ob (zi jO (L.eraseIdx t))::.pt sp [pv] 165::nt pv (L.set t (xb,l))::.mem H::F) Xi) (by omega)
 have hS:=jD.put (UU hL t xb l) hS Xp
 refine Cg (Zg sp (ts.set t l) t) λw hS=>?_
 rw[show decide (0<=(t:Int)/\(t:Int)<((ts.set t l).length:Int))=true from decide_eq_true (by rw[List.length_set];omega)]
 (exact fw hS)
theorem S3:∀{C:List Row},kB C->∀(k:Int) (v:ByteArray),(kE C ⟨k,v⟩).length=C.length+if (jV C k).isSome=true then 0 else 1
 | [],_,k,v=>by simp[kE,jV]
 | x::C,h,k,v=>by
  unfold kB at h
  rw[List.pairwise_cons]at h
  unfold kE
  by_cases h1:x.key<k
  ·have hg:jV (x::C) k=jV C k:=by unfold jV;rw[List.find?_cons];simp[show ¬x.key=k by omega]
   rw[if_pos h1,List.length_cons,S3 (C:=C) h.2 k v,List.length_cons,hg];omega
  ·rw[if_neg h1]
   by_cases h2:x.key=k
   ·have hg:(jV (x::C) k).isSome=true:=by unfold jV;rw[List.find?_cons];simp[h2]
    rw[if_pos h2,hg];simp
   ·have hg:jV (x::C) k=none:=by
     unfold jV
     have:(x::C).find? (λc=>decide (c.key=k))=none:=by
      rw[List.find?_eq_none]
      intro y hy
      rcases List.mem_cons.1 hy with rfl|hy
      ·simpa using h2
      ·have:=h.1 y hy;simp;omega
     rw[this];rfl
    rw[if_neg h2,hg];simp
theorem PJ:∀(C:List Row) (k:Int),((mj C k).length:Int)=C.length-if (jV C k).isSome=true then 1 else 0
 | [],k=>by simp[mj,jV]
 | x::C,k=>by
  unfold mj
  by_cases h:x.key=k
  ·have hg:(jV (x::C) k).isSome=true:=by unfold jV;rw[List.find?_cons];simp[h]
   rw[if_pos h,hg];simp
  ·have hg:jV (x::C) k=jV C k:=by unfold jV;rw[List.find?_cons];simp[h]
   rw[if_neg h,hg,List.length_cons,List.length_cons]
   have:=PJ C k
   omega
theorem b95{C:List Row}(h:kB C)(c:iy):((nC C c).length:Int)=C.length+(if (jV C c.key).isSome=true then (if c.gone=true then -1 else 0) else (if c.gone=true then 0 else 1)):=by
 unfold nC
 cases c.gone with
 | true=>
  rw[if_pos rfl,PJ]
  split<;>simp<;>omega
 | false=>
  rw[if_neg (by decide)]
  have:=S3 h c.key c.val
  rw[this]
  split<;>simp
theorem b96{C:List Row}(h:kB C)(c:iy)(k:Int):(jV (nC C c) k).isSome=if c.key=k then !c.gone else (jV C k).isSome:=by
 unfold nC
 cases hg:c.gone with
 | true=>
  rw[if_pos rfl,Rk h]
  split<;>rfl
 | false=>
  rw[if_neg (by decide),Rm]
  split<;>rfl
def Bz(ts T:List (List Row))(m:List ((Int × Int) × Bool)):Prop:=∀p:Int × Int,match lx m p with
 | none=>jV (lz T p.1) p.2=jV (lz ts p.1) p.2
 | some b=>(jV (lz T p.1) p.2).isSome=b
theorem bRa{κ α:Type}[DecidableEq κ](m:List (κ × α))(k:κ)(v:α)(k':κ):lx (mD m k v) k'=if k=k' then some v else lx m k':=by
 induction m with
 | nil=>simp[mD,lx]
 | cons p m ih=>
  unfold mD
  by_cases h:p.1=k
  ·rw[if_pos h]
   by_cases h1:k=k'
   ·simp[lx,h1]
   ·simp[lx,h1,show ¬p.1=k' by rw[h];exact h1]
  ·rw[if_neg h]
   by_cases h1:p.1=k'
   ·have:¬k=k':=λe=>h (by rw[h1,e])
    simp[lx,h1,this]
   ·simp only[lx,if_neg h1];exact ih
theorem cFp{T:List (List Row)}{c:iy}(hc:kJ T.length c=true)(t:Int):lz (mJ T c) t=if t=c.table then nC (lz T c.table) c else lz T t:=by
 obtain⟨h0,h1⟩:=of_decide_eq_true hc
 unfold mJ
 by_cases ht:0<=t/\t<(T.length:Int)
 ·obtain⟨n,rfl⟩:∃n:Nat,t=n:=⟨t.toNat,by omega⟩
  have hn:n<T.length:=by omega
  rw[rB _ n (by rw[List.length_set];exact hn),List.getElem_set]
  by_cases e:c.table.toNat=n
  ·rw[if_pos e,if_pos (by omega)]
  ·rw[if_neg e,if_neg (by omega),rB T n hn]
 ·rw[Jj (by rw[List.length_set];exact ht),if_neg (by omega),Jj ht]
theorem Bz.step{ts T:List (List Row)}{m:List ((Int × Int) × Bool)}(h:Bz ts T m)(hs:∀C∈T,kB C){c:iy}(hc:kJ T.length c=true):Bz ts (mJ T c) (mD m (c.table,c.key) (!c.gone)):=by
 have Sw:=hs _ (FE (of_decide_eq_true hc))
 rintro ⟨t,k⟩
 rw[bRa]
 have hk:=h (t,k)
 simp only at hk ⊢
 rw[cFp hc]
 by_cases e:(c.table,c.key)=(t,k)
 ·rw[if_pos e]
  simp only[Prod.mk.injEq]at e
  rw[if_pos e.1.symm,b96 Sw,if_pos e.2]
 ·rw[if_neg e]
  simp only[Prod.mk.injEq,not_and]at e
  by_cases e1:t=c.table
  ·rw[if_pos e1]
   have e2:=e e1.symm
   subst e1
   have hg:jV (nC (lz T c.table) c) k=jV (lz T c.table) k:=by
    unfold nC
    split
    ·rw[Rk Sw,if_neg e2]
    ·rw[Rm,if_neg e2]
   rw[hg];exact hk
  ·rw[if_neg e1];exact hk
def nc(T:List (List Row)):List Value:=T.map λC=>.int .i64 (C.length:Nat)
theorem W_(T:List (List Row)):(nc T).length=T.length:=by simp[nc]
theorem Pq{T:List (List Row)}{c:iy}{t:Nat}(ht:c.table=t)(h:t<T.length):nc (mJ T c)=(nc T).set t (.int .i64 ((nC T[t] c).length:Nat)):=by
 unfold nc mJ
 rw[List.map_set,ht,Int.toNat_natCast,rB T t h]
theorem Xa{T:List (List Row)}{c:iy}{t:Nat}(ht:c.table=t)(h:t<T.length)(hl:(nC T[t] c).length=T[t].length):nc (mJ T c)=nc T:=by
 rw[Pq ht h,hl]
 unfold nc
 rw[<- List.map_set (f:=λC:List Row=>Value.int .i64 (C.length:Nat)) (a:=T[t]),List.set_getElem_self]
theorem Gl{T:List (List Row)}{t:Nat}(h:t<T.length):(nc T)[t]?=some (.int .i64 (T[t].length:Nat)):=by simp[nc,h]
theorem Ze{W w:World}{l:List Chunk}{v u:Value}{t:TypeId}{n j:Nat}{k:IntKind}{cells:List Value}{K:World->Prop}(hS:SL W (.ob (bI v t 1 n cells)::l) w)(hj:j<n)(h1:u.oneCell'=true)
  (hK:∀w',SL W (.ob (bI v t 1 n (cells.set j u))::l) w'->K w'):ze 1 v (.int k (j:Int)) λq=>jH q u w K:=by
 rcases bI.open hS with ⟨_,h0,_⟩|⟨b,cap,rest,rfl,hc,hlen,mW,hS⟩
 ·omega
 refine zH hj ?_
 rw[Nat.zero_add,Nat.mul_one]
 refine Zn hS .hd (List.getElem?_eq_getElem (by rw[List.length_append];omega)) h1 λw' hS=>hK w' ?_
 rw[List.set_append_left _ _ (by omega)]at hS
 exact bI.mk hc (by rw[List.length_set];exact hlen) mW hS
theorem PR(t k:Int)(g:Bool)(v:ByteArray):jE ⟨t,k,g,v⟩=[.int .i64 t,.int .i64 k,.bool g,.string v]:=rfl
theorem cF3(sp:Nat)(ts:List (List Row))(H:bw)(v:Value)(l:List iy)(hv:fW H 4 v l.length (l.map jE).flatten)(hl:l.length<=140737488351232)(hs:∀C∈ts,kB C)(hn:∀C∈ts,C.length<=1000000)(hl6:l.length<=1000000)(CU:ts.length<=1000):
  SP 145 [eF sp,v] [.ob (jD sp ts),.mem H] (eW (.bool (pr ts l)) [.ob (jD sp ts),.mem H]):=by
 intro W F w hS;apply cRx;delta KF aF bF a_ dW cw ai gw dw;(try simp only[app]at hS)
 refine Cg (YV sp ts H v l hv hl) λw hS=>?_
 cases ha:l.all (kJ ts.length) with
 | false=>
  refine zw ?_
  rw[show pr ts l=false by unfold pr;rw[ha];rfl]
  (exact fw hS)
 | true=>
  refine zt ?_
  have hF:pr ts l=(jS ts l).all λC=>decide (C.length<=1000):=by unfold pr;rw[ha];rfl
  have ha:=List.all_eq_true.1 ha
  obtain⟨pv,L,hL,hS⟩:=jD.iff.1 hS
  have G8:=wV hL
  refine Gp ?_
  refine zx hS Xh ?_
  refine I8 hS (Nat.le_refl _) (by omega) (by omega) λnb w hS=>?_
  have hS:=bI.full (sz:=1) (n:=L.length) (by rw[om];rfl) hS
  refine Gp ?_
  refine zx hS Xh ?_
  refine⟨λus w=>∃(i:Nat) (cells:List Value),us=[.int .i64 i]/\i<=L.length/\cells.length=L.length/\(∀j (h:j<ts.length),j<i->cells[j]?=some (.int .i64 (ts[j].length:Nat)))/\SL W (.ob (bI (.slice (some ⟨nb,0,none⟩) L.length L.length) 3 1 L.length cells)::.pt sp [pv] 165::nt pv L::.ob (zi jO L)::.mem H::F) w,
   λus _=>match us with|[.int _ i]=>(L.length-i).toNat|_=>0,⟨0,cW [.int .i64 0] L.length,rfl,by omega,by rw[om];exact Nat.mul_one _,λj h hj=>by omega,aR hS⟩,?_⟩
  clear hS
  rintro Vp w ⟨i,cells,dR,hi,kN,pN,hS⟩
  cases dR
  refine b9 (λh=>?_) (λh=>?_)
  ·have b8:i<ts.length:=by omega
   obtain⟨b0,hb⟩:=Dk hL b8
   refine yd hS Xh AD hb (by omega) ?_
   unfold tK
   refine Gm λb w hS=>?_
   have hS:=zi.take (SL.b_ hS (t:=.ob (zi jO L)::.ob (bI (.slice (some ⟨nb,0,none⟩) L.length L.length) 3 1 L.length cells)::.pt sp [pv] 165::nt pv L::.mem H::F) Xi) hb
   refine Cc (bw0 b0 ts[i]) ?_;clear hS
   rintro u post ⟨rfl,rfl⟩ w hS
   try simp only[app]at hS
   have hS:=zi.back hS hb
   refine Ze (SL.b_ hS (t:=.ob (bI (.slice (some ⟨nb,0,none⟩) L.length L.length) 3 1 L.length cells)::.pt sp [pv] 165::nt pv L::.ob (zi jO L)::.mem H::F) Xi) (by omega) rfl λw hS=>?_
   refine Gp ?_
   refine⟨⟨i+1,_,rfl,by omega,by rw[List.length_set];exact kN,λj hj ll=>?_,hS⟩,by dsimp only;omega⟩
   rw[List.getElem?_set]
   by_cases e:i=j
   ·subst e;rw[if_pos rfl,if_pos (by omega)]
   ·rw[if_neg e];exact pN j hj (by omega)
  ·obtain rfl:i=L.length:=by omega
   have hce:cells=nc ts:=by
    refine List.ext_getElem? λj=>?_
    rcases Nat.lt_or_ge j ts.length with hj|hj
    ·rw[pN j hj (by omega),Gl hj]
    ·rw[List.getElem?_eq_none (by omega),List.getElem?_eq_none (by rw[W_];omega)]
   subst hce
   clear pN kN
   have hS:=jD.put hL hS Xp
   clear hL
   refine zn hv ?_
   have hS:=hS.Tq (key:=od) (val:=Value.bool)
   generalize w.heap.size=mb at *
   generalize w.alloc (.map #[] 0)=w at *
   rw[show nc ts=nc (jS ts (l.take 0)) from rfl]at hS
   refine⟨λus w=>∃(i:Nat) (m:List ((Int × Int) × Bool)),us=[.int .i64 i]/\i<=l.length/\Bz ts (jS ts (l.take i)) m/\SL W (.ob (jD sp ts)::.ob (j4 od Value.bool mb m)::.ob (bI (.slice (some ⟨nb,0,none⟩) L.length L.length) 3 1 L.length (nc (jS ts (l.take i))))::.mem H::F) w,
    λus _=>match us with|[.int _ i]=>(l.length-i).toNat|_=>0,⟨0,[],rfl,by omega,λp=>rfl,aR hS⟩,?_⟩
   clear hS
   rintro v46 w ⟨i,m,dR,hi,hM,hS⟩
   cases dR
   refine b9 (λh=>?_) (λh=>?_)
   ·have b8:i<l.length:=by omega
    have kK:jS ts (l.take (i+1))=mJ (jS ts (l.take i)) l[i]:=by rw[List.take_succ_eq_append_getElem b8,F8]
    have py:=ha _ (List.getElem_mem b8)
    have sC:=uy ts (l.take i)
    have uN:=DL (l:=l.take i) hs λc hc=>ha c (List.mem_of_mem_take hc)
    have sD:=Ap 1000000 (l:=l.take i) hn λc hc=>ha c (List.mem_of_mem_take hc)
    have HW:(l.take i).length<=l.length:=by rw[List.length_take];omega
    generalize jS ts (l.take i)=T at *
    refine zK hS Xh mP hv (x:=l[i]) (by simp[b8]) b8 ?_
    generalize l[i]=c at *
    obtain⟨ct,ck,cg,cv⟩:=c
    obtain⟨h0,h1⟩:0<=ct/\ct<(ts.length:Int):=of_decide_eq_true py
    obtain⟨t,rfl⟩:∃n:Nat,ct=n:=⟨ct.toNat,by omega⟩
    have ht:t<T.length:=by omega
    have nN:t<ts.length:=by omega
    have CV:T[t]∈T:=List.getElem_mem ht
    have iZ:=sD _ CV
    have uM:=hM (t,ck)
    have p9:=hM.step uN (c:=⟨t,ck,cg,cv⟩) (by rw[sC];exact py)
    have wE:=b95 (uN _ CV) ⟨t,ck,cg,cv⟩
    simp only at uM p9 wE
    rw[rB T t ht,rB ts t nN]at uM
    rw[<- kK]at p9
    clear hM
    rw[PR]
    refine Gb λcb w hS=>?_
    refine Gb λpb w hS=>?_
    refine b_4 (key:=od) (val:=Value.bool) (z:=.bool false) (k:=((t:Int),ck)) hS Xh T9 Tryz.underlying309 (λw=>by kernel_rfl) ?_
    refine Gp ?_
    refine⟨λus w=>us=[.bool (jV T[t] ck).isSome]/\SL W (.pt pb [.int .i64 t,.int .i64 ck] 311::.pt cb [.int .i64 t,.int .i64 ck,.bool cg,.string cv] 82::.ob (jD sp ts)::.ob (j4 od Value.bool mb m)::.ob (bI (.slice (some ⟨nb,0,none⟩) L.length L.length) 3 1 L.length (nc T))::.mem H::F) w,?_,?_⟩
    ·cases AX:lx m ((t:Int),ck) with
     | none=>
      rw[AX]at uM
      refine zQ (zw ?_)
      have uM:jV T[t] ck=jV ts[t] ck:=uM
      obtain⟨pv,L2,hL,hS⟩:=jD.iff.1 (SL.b_ hS (t:=.ob (jD sp ts)::.pt pb [.int .i64 t,.int .i64 ck] 311::.pt cb [.int .i64 t,.int .i64 ck,.bool cg,.string cv] 82::.ob (j4 od Value.bool mb m)::.ob (bI (.slice (some ⟨nb,0,none⟩) L.length L.length) 3 1 L.length (nc T))::.mem H::F) Xi)
      obtain⟨b0,hb⟩:=Dk hL nN
      have d_z:=wV hL
      refine Gn λw hS=>?_
      refine zJ hS Xh AD hb (by omega) (i:=0) rfl ?_
      refine Gp ?_
      have hS:=zi.take (SL.b_ hS (t:=.ob (zi jO L2)::.pt sp [pv] 165::nt pv L2::.pt pb [.int .i64 t,.int .i64 ck] 311::.pt cb [.int .i64 t,.int .i64 ck,.bool cg,.string cv] 82::.ob (j4 od Value.bool mb m)::.ob (bI (.slice (some ⟨nb,0,none⟩) L.length L.length) 3 1 L.length (nc T))::.mem H::F) Xi) hb
      refine Cc (bwy b0 ts[t] ck (hs _ (List.getElem_mem nN)) (hn _ (List.getElem_mem nN))) ?_;clear hS
      rintro u post ⟨rfl,rfl⟩ w hS
      try simp only[app]at hS
      have hS:=jD.put hL (zi.back hS hb) Xp
      unfold Rj
      refine Gp ?_
      exact⟨by rw[uM],aR hS⟩
     | some q=>
      rw[AX]at uM
      have uM:(jV T[t] ck).isSome=q:=uM
      refine zQ (zt ?_)
      exact⟨by rw[uM];rfl,aR hS⟩
    clear hS
    rintro nS w ⟨dR,hS⟩
    cases dR
    refine Gp ?_
    refine b_6 (key:=od) (val:=Value.bool) (k:=((t:Int),ck)) (v:=!cg) hS Xu T9 Tryz.underlying309 λ_ w hS=>?_
    have lS:∀{w:World} {cells:List Value},cells=nc (jS ts (l.take (i+1)))->SL W (.ob (bI (.slice (some ⟨nb,0,none⟩) L.length L.length) 3 1 L.length cells)::.ob (jD sp ts)::.ob (j4 od Value.bool mb (mD m ((t:Int),ck) (!cg)))::.mem H::F) w ->
      ∃(i':Nat) (m':List ((Int × Int) × Bool)),[Value.int .i64 ((i+1:Nat):Int)]=[.int .i64 i']/\i'<=l.length/\Bz ts (jS ts (l.take i')) m'/\SL W (.ob (jD sp ts)::.ob (j4 od Value.bool mb m')::.ob (bI (.slice (some ⟨nb,0,none⟩) L.length L.length) 3 1 L.length (nc (jS ts (l.take i'))))::.mem H::F) w:=λe hS=>by
     subst e
     exact⟨i+1,_,rfl,by omega,p9,aR hS⟩
    have RR:=Gl ht
    have uO:=Pq (T:=T) (c:=⟨t,ck,cg,cv⟩) rfl ht
    have uU:=Xa (T:=T) (c:=⟨t,ck,cg,cv⟩) rfl ht
    rw[<- kK]at uO uU
    refine⟨λus w=>us=[.bool ((jV T[t] ck).isSome && cg)]/\SL W (.pt cb [.int .i64 t,.int .i64 ck,.bool cg,.string cv] 82::.ob (jD sp ts)::.ob (j4 od Value.bool mb (mD m ((t:Int),ck) (!cg)))::.ob (bI (.slice (some ⟨nb,0,none⟩) L.length L.length) 3 1 L.length (nc T))::.mem H::F) w,?_,?_⟩
    ·cases (jV T[t] ck).isSome with
     | false=>
      refine Gp ?_
      exact⟨rfl,aR hS⟩
     | true=>
      refine Gp ?_
      exact⟨by simp,aR hS⟩
    clear hS
    rintro v83 w ⟨dR,hS⟩
    cases dR
    cases hw:(jV T[t] ck).isSome<;>cases cg<;>rw[hw]at wE
    ·refine zt (zQ (zw ?_))
     refine Gp ?_
     refine zw ?_
     refine Gp ?_
     refine z8 hS Xh (by omega) RR ?_
     refine Gp ?_
     refine Ze (SL.b_ hS (t:=.ob (bI (.slice (some ⟨nb,0,none⟩) L.length L.length) 3 1 L.length (nc T))::.ob (jD sp ts)::.ob (j4 od Value.bool mb (mD m ((t:Int),ck) (!false)))::.mem H::F) Xi) (by omega) rfl λw hS=>?_
     refine Gp ?_
     exact⟨lS (by rw[uO];congr 2;simp at wE;omega) hS,by dsimp only;omega⟩
    ·refine zt (zQ (zw ?_))
     refine Gp ?_
     refine zt ?_
     refine Gp ?_
     exact⟨lS (uU (by simp at wE;omega)).symm (aR hS),by dsimp only;omega⟩
    ·refine zt (zQ (zt ?_))
     refine Gp ?_
     exact⟨lS (uU (by simp at wE;omega)).symm (aR hS),by dsimp only;omega⟩
    ·refine zw ?_
     refine Gp ?_
     refine z8 hS Xh (by omega) RR ?_
     refine Gp ?_
     refine Ze (SL.b_ hS (t:=.ob (bI (.slice (some ⟨nb,0,none⟩) L.length L.length) 3 1 L.length (nc T))::.ob (jD sp ts)::.ob (j4 od Value.bool mb (mD m ((t:Int),ck) (!true)))::.mem H::F) Xi) (by omega) rfl λw hS=>?_
     refine Gp ?_
     exact⟨lS (by rw[uO];congr 2;simp at wE;omega) hS,by dsimp only;omega⟩
   ·obtain rfl:i=l.length:=by omega
    rw[List.take_length]at hS
    have sC:=uy ts l
    generalize jS ts l=T at *
    refine Gp ?_
    refine⟨λus w=>∃j:Nat,us=[.int .i64 j]/\j<=T.length/\(∀k (h:k<T.length),k<j->T[k].length<=1000)/\SL W (.ob (jD sp ts)::.ob (bI (.slice (some ⟨nb,0,none⟩) L.length L.length) 3 1 L.length (nc T))::.mem H::F) w,
     λus _=>match us with|[.int _ i]=>(T.length-i).toNat|_=>0,⟨0,rfl,by omega,λk h hk=>by omega,aR hS⟩,?_⟩
    clear hS
    rintro Vo w ⟨j,dR,hj,iD,hS⟩
    cases dR
    refine b9 (λh=>?_) (λh=>?_)
    ·have jI:j<T.length:=by omega
     refine z8 hS Xh (by omega) (Gl jI) ?_
     refine b9 (λh2=>?_) (λh2=>?_)
     ·rw[hF,show (T.all λC=>decide (C.length<=1000))=false from List.all_eq_false.2 ⟨_,List.getElem_mem jI,by simp;omega⟩]
      (exact fw hS)
     ·refine Gp ?_
      refine⟨⟨j+1,rfl,by omega,λk hk CA=>?_,hS⟩,by dsimp only;omega⟩
      by_cases e:k=j
      ·subst e;omega
      ·exact iD k hk (by omega)
    ·rw[hF,show (T.all λC=>decide (C.length<=1000))=true from List.all_eq_true.2 λC hC=>by
      obtain⟨k,hk,rfl⟩:=List.getElem_of_mem hC
      exact decide_eq_true (iD k hk (by omega))]
     (exact fw hS)
theorem qH(c:iy)(k:Int):SP 222 [agg (jE c),.int .i64 k] [] (eW (.bool (ma c k)) []):=by
 intro W F w hS;apply c_1;delta LR aF a_ dW cw ai;(try simp only[app]at hS)
 refine zC hS λb w hS=>?_
 unfold jE at hS
 have hF:∀{w:World},¬(0<=c.table/\c.table<k/\1<=c.key/\c.key<=1099511627776/\c.val.size<=32)->SL W (.pt b [.int .i64 c.table,.int .i64 c.key,.bool c.gone,.string c.val] 82::F) w ->
   ∃post,eW (.bool (ma c k)) [] (.bool false) post/\SL W (app post F) w:=λh hS=>⟨_,⟨by rw[show ma c k=false by unfold ma;rw[decide_eq_false_iff_not];exact λk=>h ⟨k.1,k.2.1,k.2.2.1,k.2.2.2.1,k.2.2.2.2.1⟩],rfl⟩,aR hS⟩
 refine Gp ?_
 refine za (λ_=>hF (by omega) hS) (λ_=>?_)
 refine Gp ?_
 refine za (λ_=>hF (by omega) hS) (λ_=>?_)
 refine Gp ?_
 refine za (λ_=>hF (by omega) hS) (λ_=>?_)
 refine Gp ?_
 refine za (λ_=>hF (by omega) hS) (λ_=>?_)
 (repeat (first|refine Gp ?_|refine Gw λw hS=>?_|refine za (λ_=>hF (by omega) hS) (λ_=>?_)|refine za (λ_=>?_) (λ_=>hF (by omega) hS)))
 have e:ma c k=decide (c.gone=true->c.val=emp):=by
  unfold ma
  rw[decide_eq_decide]
  exact⟨λh=>h.2.2.2.2.2,λh=>⟨by omega,by omega,by omega,by omega,by omega,h⟩⟩
 rw[e]
 refine zz (λh=>?_) (λh=>?_)
 ·rw[h,decide_eq_true (by simp)]
  (exact fw hS)
 ·refine Gp ?_
  rw[h]
  have e2:decide (true=true->c.val=emp)=decide (c.val={data:=#[]}):=by rw[decide_eq_decide];exact⟨λh=>h rfl,λh _=>h⟩
  rw[e2]
  (exact fw hS)
theorem Fc{t:gW}(h:¬(1<=t.aI/\t.aI<=1099511627776)):ji t=false:=by
 unfold ji;rw[decide_eq_false h];rfl
theorem Bc{t:gW}(hk:t.kind=1)(h:¬(t.mark=0/\t.changes.length<=16/\t.signals.length<=2)):ji t=false:=by
 unfold ji;rw[if_pos hk,decide_eq_false h];simp
theorem Tx{t:gW}{i:Nat}(hk:t.kind=1)(hi:i<t.changes.length)(h:ma t.changes[i] 8=false):ji t=false:=by
 cases hm:ji t with
 | false=>rfl
 | true=>
  rw[(nB hm).2.2.2.2.2.1 _ (List.getElem_mem hi)]at h;cases h
theorem Ty{t:gW}{i:Nat}(hk:t.kind=1)(hi:i<t.signals.length)(h:¬t.signals[i].size<=40):ji t=false:=by
 cases hm:ji t with
 | false=>rfl
 | true=>exact absurd ((nB hm).2.2.2.2.2.2 _ (List.getElem_mem hi)) h
theorem TB{t:gW}(hl:1<=t.aI/\t.aI<=1099511627776)(hk:t.kind=1)(h:t.mark=0/\t.changes.length<=16/\t.signals.length<=2)(h1:∀j (hj:j<t.changes.length),ma t.changes[j] 8=true)(h2:∀j (hj:j<t.signals.length),t.signals[j].size<=40):ji t=true:=by
 refine wO.2 ⟨hl,.inl ⟨hk,h.1,h.2.1,h.2.2,λc hc=>?_,λs hs=>?_⟩⟩
 ·obtain⟨j,hj,rfl⟩:=List.getElem_of_mem hc;exact h1 j hj
 ·obtain⟨j,hj,rfl⟩:=List.getElem_of_mem hs;exact h2 j hj
theorem Tz{t:gW}(hl:1<=t.aI/\t.aI<=1099511627776)(hk:t.kind=2\/t.kind=3):ji t=decide (1<=t.mark/\t.mark<=1099511627776/\t.changes.length=0/\t.signals.length=0):=by
 rw[Bool.eq_iff_iff,wO,decide_eq_true_eq]
 simp only[List.length_eq_zero_iff]
 constructor
 ·rintro ⟨_,h|h⟩
  ·omega
  ·exact h.2
 ·exact λh=>⟨hl,.inr ⟨hk,h⟩⟩
theorem TA{t:gW}(h:¬(1<=t.kind/\t.kind<=3)):ji t=false:=by
 cases hm:ji t with
 | false=>rfl
 | true=>exact absurd (nB hm).2.1 h
abbrev oN(b:Nat)(x:mu)(t:gW):Chunk:=.pt b [.int .i64 t.aI,.int .i64 t.kind,x.cv,x.sv,.int .i64 t.mark] 39
theorem qI(H:bw)(x:mu)(t:gW)(hx:kS H x t)(hl:1<=t.aI/\t.aI<=1099511627776)(hk:t.kind=1):SP 144 [agg (iG x)] [.mem H] (eW (.bool (ji t)) [.mem H]):=by
 intro W F w hS;apply cRw;delta KE aF a_ dW cw ai dw;(try simp only[app]at hS)
 refine zC hS λxb w hS=>?_
 unfold iG at hS
 rw[hx.aI,hx.kind,hx.mark]at hS
 have hF:∀{w:World},ji t=false->SL W (oN xb x t::.mem H::F) w->∃post,eW (.bool (ji t)) [.mem H] (.bool false) post/\SL W (app post F) w:=λh hS=>⟨_,⟨by rw[h],rfl⟩,aR hS⟩
 refine Gp ?_
 refine za (λh=>hF (Bc hk (by omega)) hS) (λh1=>?_)
 refine Gp ?_
 refine zn hx.cv ?_
 refine Gp ?_
 refine za (λh=>hF (Bc hk (by omega)) hS) (λh2=>?_)
 refine Gp ?_
 refine zn hx.sv ?_
 refine Gp ?_
 refine za (λh=>hF (Bc hk (by omega)) hS) (λh3=>?_)
 refine Gp ?_
 refine zn hx.cv ?_
 refine⟨λvs w=>∃i:Nat,vs=[.int .i64 i]/\i<=t.changes.length/\(∀j (hj:j<t.changes.length),j<i->ma t.changes[j] 8=true)/\SL W (oN xb x t::.mem H::F) w,
  λvs _=>match vs with|[.int _ i]=>(t.changes.length-i).toNat|_=>0,⟨0,rfl,by omega,λj hj h=>by omega,hS⟩,?_⟩
 clear hS
 rintro v3 w ⟨i,jR,hi,iD,hS⟩
 cases jR
 refine b9 (λh=>?_) (λh=>?_)
 ·have b8:i<t.changes.length:=by omega
  refine zK hS Xh mP hx.cv (x:=t.changes[i]) (by simp[b8]) b8 ?_
  refine Gm λb w hS=>?_
  refine Cg (qH t.changes[i] 8) λw hS=>?_
  refine zz (λh=>hF (Tx hk b8 h) (aR hS)) (λh=>?_)
  refine Gp ?_
  refine⟨⟨i+1,rfl,by omega,λj hj ll=>?_,aR hS⟩,by dsimp only;omega⟩
  by_cases e:j=i
  ·subst e;exact h
  ·exact iD j hj (by omega)
 ·have nf:i=t.changes.length:=by omega
  have iP:∀j (hj:j<t.changes.length),ma t.changes[j] 8=true:=λj hj=>iD j hj (by omega)
  clear iD
  refine Gp ?_
  refine zn hx.sv ?_
  refine⟨λvs w=>∃i:Nat,vs=[.int .i64 i]/\i<=t.signals.length/\(∀j (hj:j<t.signals.length),j<i->t.signals[j].size<=40)/\SL W (oN xb x t::.mem H::F) w,
   λvs _=>match vs with|[.int _ i]=>(t.signals.length-i).toNat|_=>0,⟨0,rfl,by omega,λj hj h=>by omega,aR hS⟩,?_⟩
  clear hS
  rintro v5 w ⟨i,jR,hi,iD,hS⟩
  cases jR
  refine b9 (λh=>?_) (λh=>?_)
  ·have b8:i<t.signals.length:=by omega
   refine yn hS Xh hx.sv b8 (u:=.string t.signals[i]) (by simp[b8]) ?_
   refine Gp ?_
   refine za (λh=>hF (Ty hk b8 (by omega)) (aR hS)) (λh=>?_)
   refine Gp ?_
   refine⟨⟨i+1,rfl,by omega,λj hj ll=>?_,aR hS⟩,by dsimp only;omega⟩
   by_cases e:j=i
   ·subst e;omega
   ·exact iD j hj (by omega)
  ·rw[TB hl hk (by omega) iP λj hj=>iD j hj (by omega)]
   (exact fw hS)
theorem yx(H:bw)(x:mu)(t:gW)(hx:kS H x t):SP 61 [agg (iG x)] [.mem H] (eW (.bool (ji t)) [.mem H]):=by
 intro W F w hS;apply dRw;delta N7 aF a_ cw ai;(try simp only[app]at hS)
 refine zC hS λxb w hS=>?_
 unfold iG at hS
 rw[hx.aI,hx.kind,hx.mark]at hS
 have hF:∀{w:World},ji t=false->SL W (oN xb x t::.mem H::F) w->∃post,eW (.bool (ji t)) [.mem H] (.bool false) post/\SL W (app post F) w:=λh hS=>⟨_,⟨by rw[h],rfl⟩,aR hS⟩
 refine Gp ?_
 refine za (λh=>hF (Fc (by omega)) hS) (λh1=>?_)
 refine Gp ?_
 refine za (λh=>hF (Fc (by omega)) hS) (λh2=>?_)
 refine b9 (λhk=>?_) (λhk=>?_)
 ·refine Gp ?_
  have mY:kS H ⟨t.aI,t.kind,x.cv,x.sv,t.mark⟩ t:=⟨rfl,rfl,rfl,hx.cv,hx.sv⟩
  refine Cg (qI H ⟨t.aI,t.kind,x.cv,x.sv,t.mark⟩ t mY (by omega) hk) λw hS=>?_
  (exact fw hS)
 ·refine⟨λvs w=>vs=[.bool (decide (t.kind=2\/t.kind=3))]/\SL W (oN xb x t::.mem H::F) w,?_,?_⟩
  ·refine Gp ?_
   refine za (λh=>⟨by rw[decide_eq_true (Or.inl h)],hS⟩) (λh=>?_)
   refine Gp ?_
   exact⟨by rw[show decide (t.kind=3)=decide (t.kind=2\/t.kind=3) from decide_eq_decide.2 ⟨Or.inr,λh'=>by omega⟩],hS⟩
  clear hS
  rintro Jp w ⟨hv,hS⟩
  cases hv
  refine za (λng=>?_) (λng=>hF (TA (by omega)) hS)
  have hM:=Tz (t:=t) (by omega) ng
  have xD:∀{w:World},¬(1<=t.mark/\t.mark<=1099511627776/\t.changes.length=0/\t.signals.length=0)->SL W (oN xb x t::.mem H::F) w->∃post,eW (.bool (ji t)) [.mem H] (.bool false) post/\SL W (app post F) w:=λh hS=>hF (by rw[hM,decide_eq_false h]) hS
  refine Gp ?_
  refine za (λh3=>?_) (λh3=>xD (by omega) hS)
  refine Gp ?_
  refine za (λh4=>?_) (λh4=>xD (by omega) hS)
  refine Gp ?_
  refine zn hx.cv ?_
  refine Gp ?_
  refine za (λh5=>?_) (λh5=>xD (by omega) hS)
  refine Gp ?_
  refine zn hx.sv ?_
  refine Gp ?_
  rw[hM,show decide (1<=t.mark/\t.mark<=1099511627776/\t.changes.length=0/\t.signals.length=0)=decide ((t.signals.length:Int)=0) from decide_eq_decide.2 ⟨λh=>by omega,λh=>by omega⟩]
  (exact fw hS)
theorem yy(H:bw)(x:mu)(t:gW)(hx:kS H x t):SP 89 [agg (iG x)] [.mem H] (eW (.bool (ji t)) [.mem H]):=by
 intro W F w hS;apply dWk;delta Ow aF a_ dW cw ai;(try simp only[app]at hS)
 refine zC hS λxb w hS=>?_
 unfold iG at hS
 rw[hx.aI,hx.kind,hx.mark]at hS
 have hF:∀{w:World},ji t=false->SL W (oN xb x t::.mem H::F) w->∃post,eW (.bool (ji t)) [.mem H] (.bool false) post/\SL W (app post F) w:=λh hS=>⟨_,⟨by rw[h],rfl⟩,aR hS⟩
 refine Gp ?_
 refine za (λh=>hF (Fc (by omega)) hS) (λh1=>?_)
 refine Gp ?_
 refine za (λh=>hF (Fc (by omega)) hS) (λh2=>?_)
 refine b9 (λhk=>?_) (λhk=>?_)
 ·refine Gp ?_
  refine za (λh=>hF (Bc hk (by omega)) hS) (λh1=>?_)
  refine Gp ?_
  refine zn hx.cv ?_
  refine Gp ?_
  refine za (λh=>hF (Bc hk (by omega)) hS) (λh2=>?_)
  refine Gp ?_
  refine zn hx.sv ?_
  refine Gp ?_
  refine za (λh=>hF (Bc hk (by omega)) hS) (λh3=>?_)
  refine⟨λvs w=>∃i:Nat,vs=[.int .i64 i]/\i<=t.changes.length/\(∀j (hj:j<t.changes.length),j<i->ma t.changes[j] 8=true)/\SL W (oN xb x t::.mem H::F) w,
   λvs _=>match vs with|[.int _ i]=>(t.changes.length-i).toNat|_=>0,⟨0,rfl,by omega,λj hj h=>by omega,hS⟩,?_⟩
  clear hS
  rintro v3 w ⟨i,jR,hi,iD,hS⟩
  cases jR
  refine Gp ?_
  refine zn hx.cv ?_
  refine b9 (λh=>?_) (λh=>?_)
  ·have b8:i<t.changes.length:=by omega
   refine Gp ?_
   refine zK hS Xh mP hx.cv (x:=t.changes[i]) (by simp[b8]) b8 ?_
   refine Cg (qS t.changes[i] 8) λw hS=>?_
   refine zz (λh=>hF (Tx hk b8 h) (aR hS)) (λh=>?_)
   refine Gp ?_
   refine⟨⟨i+1,rfl,by omega,λj hj ll=>?_,aR hS⟩,by dsimp only;omega⟩
   by_cases e:j=i
   ·subst e;exact h
   ·exact iD j hj (by omega)
  ·have nf:i=t.changes.length:=by omega
   have iP:∀j (hj:j<t.changes.length),ma t.changes[j] 8=true:=λj hj=>iD j hj (by omega)
   clear iD
   refine⟨λvs w=>∃i:Nat,vs=[.int .i64 i]/\i<=t.signals.length/\(∀j (hj:j<t.signals.length),j<i->t.signals[j].size<=40)/\SL W (oN xb x t::.mem H::F) w,
    λvs _=>match vs with|[.int _ i]=>(t.signals.length-i).toNat|_=>0,⟨0,rfl,by omega,λj hj h=>by omega,aR hS⟩,?_⟩
   clear hS
   rintro v5 w ⟨i,jR,hi,iD,hS⟩
   cases jR
   refine Gp ?_
   refine zn hx.sv ?_
   refine b9 (λh=>?_) (λh=>?_)
   ·have b8:i<t.signals.length:=by omega
    refine Gp ?_
    refine yn hS Xh hx.sv b8 (u:=.string t.signals[i]) (by simp[b8]) ?_
    refine Gp ?_
    refine za (λh=>hF (Ty hk b8 (by omega)) (aR hS)) (λh=>?_)
    refine Gp ?_
    refine⟨⟨i+1,rfl,by omega,λj hj ll=>?_,aR hS⟩,by dsimp only;omega⟩
    by_cases e:j=i
    ·subst e;omega
    ·exact iD j hj (by omega)
   ·rw[TB (by omega) hk (by omega) iP λj hj=>iD j hj (by omega)]
    (exact fw hS)
 ·refine⟨λvs w=>vs=[.bool (decide (t.kind=2\/t.kind=3))]/\SL W (oN xb x t::.mem H::F) w,?_,?_⟩
  ·refine Gp ?_
   refine za (λh=>⟨by rw[decide_eq_true (Or.inl h)],hS⟩) (λh=>?_)
   refine Gp ?_
   exact⟨by rw[show decide (t.kind=3)=decide (t.kind=2\/t.kind=3) from decide_eq_decide.2 ⟨Or.inr,λh'=>by omega⟩],hS⟩
  clear hS
  rintro Jp w ⟨hv,hS⟩
  cases hv
  refine za (λng=>?_) (λng=>hF (TA (by omega)) hS)
  have hM:=Tz (t:=t) (by omega) ng
  have xD:∀{w:World},¬(1<=t.mark/\t.mark<=1099511627776/\t.changes.length=0/\t.signals.length=0)->SL W (oN xb x t::.mem H::F) w->∃post,eW (.bool (ji t)) [.mem H] (.bool false) post/\SL W (app post F) w:=λh hS=>hF (by rw[hM,decide_eq_false h]) hS
  refine Gp ?_
  refine za (λh3=>?_) (λh3=>xD (by omega) hS)
  refine Gp ?_
  refine za (λh4=>?_) (λh4=>xD (by omega) hS)
  refine Gp ?_
  refine zn hx.cv ?_
  refine Gp ?_
  refine za (λh5=>?_) (λh5=>xD (by omega) hS)
  refine Gp ?_
  refine zn hx.sv ?_
  refine Gp ?_
  rw[hM,show decide (1<=t.mark/\t.mark<=1099511627776/\t.changes.length=0/\t.signals.length=0)=decide ((t.signals.length:Int)=0) from decide_eq_decide.2 ⟨λh=>by omega,λh=>by omega⟩]
  (exact fw hS)
section
variable (b:Nat) (x1 x2 x3:Int) (t:TypeId)
theorem bFc:SP 225 [.slice (some ⟨b,0,none⟩) 3 3] [.pt b [.int .i64 x1,.int .i64 x2,.int .i64 x3] t] (λu post=>post=[mH u [iF x1,iF x2,iF x3]]):=Zz b [x1,x2,x3] t (by simp)
end
def vZ(H:bw)(t:gW)(u:Value)(post:List Chunk):Prop:=match uF t with
 | .error e=>u= .tuple #[.slice none 0 0,.int .i64 e]/\post=[.mem H]
 | .ok b=>∃v,u= .tuple #[v,.int .i64 0]/\post=[.ob (bI v 5 1 b.length (b.map fI)),.mem H]
def oQ(t:gW)(i:Nat):List ie:=[iF t.aI,iF t.kind,iF t.mark,iF t.changes.length]++((t.changes.take i).map pL).flatten
def p6(t:gW)(i:Nat):List ie:=oQ t t.changes.length++[iF t.signals.length]++(t.signals.take i).map tF
theorem P4{t:gW}{i:Nat}(h:i<t.changes.length):oQ t (i+1)=oQ t i++pL t.changes[i]:=by
 unfold oQ;rw[List.take_succ_eq_append_getElem h,List.map_append,List.flatten_append,List.map_singleton,List.flatten_singleton,List.append_assoc]
theorem P7{t:gW}{i:Nat}(h:i<t.signals.length):p6 t (i+1)=p6 t i++[tF t.signals[i]]:=by
 unfold p6;rw[List.take_succ_eq_append_getElem h,List.map_append,List.map_singleton,<- List.append_assoc]
theorem P5(t:gW):p6 t t.signals.length=mV t:=by
 unfold p6 oQ mV;simp
theorem GL(t:gW)(i:Nat):(oQ t i).length<=4+4*i:=by
 unfold oQ
 rw[List.length_append,aio (n:=4) (λ_=>rfl),List.length_take]
 simp;omega
theorem P6(t:gW)(i:Nat):(p6 t i).length<=5+4*t.changes.length+i:=by
 have:=GL t t.changes.length
 unfold p6
 rw[List.length_append,List.length_append,List.length_map,List.length_take]
 simp;omega
theorem QN(H:bw)(x:mu)(t:gW)(hx:kS H x t):SP 146 [agg (iG x)] [.mem H] (vZ H t):=by
 intro W F w hS;apply cRy;delta KG aF a_ aW dW ai dw bR;(try simp only[app]at hS)
 refine zC hS λxb w hS=>?_
 refine Gp ?_
 refine Cg (yx H x t hx) λw hS=>?_
 refine zz (λh=>?_) (λhm=>?_)
 ·exact⟨[.mem H],by unfold vZ uF;rw[if_neg (by rw[h];decide)];exact⟨rfl,rfl⟩,aR hS⟩
 have hb:=nB hm
 unfold iG at hS
 rw[hx.aI,hx.kind,hx.mark]at hS
 refine Gp ?_
 refine zn hx.cv ?_
 refine Gm λb w hS=>?_
 refine Cc (bFd b t.aI t.kind t.mark t.changes.length 2) ?_;clear hS
 rintro u post rfl w hS
 (try simp only[app]at hS);refine Gp ?_
 refine zn hx.cv ?_
 have hS:SL W (mH u (oQ t 0)::_) _:=hS
 refine⟨λvs w=>∃(i:Nat) (u:Value),vs=[u,.int .i64 i]/\i<=t.changes.length/\SL W (mH u (oQ t i)::oN xb x t::.mem H::F) w,
  λvs _=>match vs with|[_,.int _ i]=>(t.changes.length-i).toNat|_=>0,⟨0,_,rfl,by omega,aR hS⟩,?_⟩
 clear hS
 rintro u v3 w ⟨i,_,jR,hi,hS⟩
 cases jR
 have uL:=GL t i
 refine b9 (λh=>?_) (λh=>?_)
 ·have b8:i<t.changes.length:=by omega
  have hs:=P4 b8
  refine zK hS Xh mP hx.cv (x:=t.changes[i]) (by simp[b8]) b8 ?_
  generalize t.changes[i]=o at *
  obtain⟨ot,ok,og,ov⟩:=o
  refine Gm λb w hS=>?_
  unfold jE at hS
  refine Cg (bW0 og) λw hS=>?_;refine Gm λb w hS=>?_
  refine Cc (bFc b ot ok (so og) 2) ?_;clear hS
  rintro u2 post rfl w hS
  try simp only[app]at hS
  refine yE (L:=oQ t i) hS Xr (rz hS Xh) (by simp;omega) λu3 w hS=>?_
  refine Gp ?_
  refine Cg (Yd ov) λw hS=>?_;refine Gm λb w hS=>?_
  refine yE (M:=[tF ov]) hS Xr (Dl hS Xh) (by simp;omega) λu4 w hS=>?_
  refine Gp ?_
  refine⟨⟨i+1,_,rfl,by omega,?_⟩,by dsimp only;omega⟩
  rw[hs]
  simp only[List.append_assoc]at hS
  have hS:SL W (mH _ (oQ t i++pL ⟨ot,ok,og,ov⟩)::_) _:=hS
  exact aR hS
 ·have nf:i=t.changes.length:=by omega
  subst nf
  refine Gp ?_
  refine zn hx.sv ?_
  refine Gm λb w hS=>?_
  refine Cc (bFb b t.signals.length 2) ?_;clear hS
  rintro u2 post rfl w hS
  try simp only[app]at hS
  refine yE (L:=oQ t t.changes.length) hS Xr (rz hS Xh) (by simp;omega) λu3 w hS=>?_
  refine Gp ?_
  refine zn hx.sv ?_
  refine⟨λvs w=>∃(i:Nat) (u:Value),vs=[u,.int .i64 i]/\i<=t.signals.length/\SL W (mH u (p6 t i)::oN xb x t::.mem H::F) w,
   λvs _=>match vs with|[_,.int _ i]=>(t.signals.length-i).toNat|_=>0,⟨0,u3,rfl,by omega,?_⟩,?_⟩
  ·rw[show p6 t 0=oQ t t.changes.length++[iF t.signals.length] by unfold p6;simp]
   exact aR hS
  clear hS
  rintro u v3 w ⟨i,_,jR,hi,hS⟩
  cases jR
  have Ee:=P6 t i
  refine b9 (λh=>?_) (λh=>?_)
  ·have b8:i<t.signals.length:=by omega
   have hs:=P7 b8
   refine yn hS Xh hx.sv b8 (u:=.string t.signals[i]) (by simp[b8]) ?_
   refine Cg (Yd t.signals[i]) λw hS=>?_;refine Gm λb w hS=>?_
   refine yE (L:=p6 t i) (M:=[tF t.signals[i]]) hS Xr (Dl hS Xh) (by simp;omega) λu3 w hS=>?_
   refine Gp ?_
   refine⟨⟨i+1,_,rfl,by omega,?_⟩,by dsimp only;omega⟩
   rw[hs]
   exact aR hS
  ·have nf:i=t.signals.length:=by omega
   subst nf
   rw[P5]at hS Ee
   refine Cc (ZL (mH u (mV t)) u (mV t) rG.own (by omega)) ?_;clear hS
   rintro r post hq w hS
   try simp only[app]at hS
   unfold sf at hq
   unfold vZ uF
   rw[if_pos hm]
   cases he:po (mV t) with
   | error e=>
    rw[he]at hq
    obtain⟨rfl,rfl⟩:=hq
    (try simp only[app]at hS);refine Gp ?_
    exact fw hS
   | ok bs=>
    rw[he]at hq
    obtain⟨v,rfl,rfl⟩:=hq
    (try simp only[app]at hS);refine Gp ?_
    exact⟨_,⟨v,rfl,rfl⟩,aR hS⟩
theorem Q3(H:bw)(x:mu)(t:gW)(hx:kS H x t):SP 183 [agg (iG x)] [.mem H] (vZ H t):=by
 intro W F w hS;apply cWz;delta Lf aF a_ aW dW ai dw bR;(try simp only[app]at hS)
 refine zC hS λxb w hS=>?_
 refine Gp ?_
 refine Cg (yy H x t hx) λw hS=>?_
 refine zz (λh=>?_) (λhm=>?_)
 ·exact⟨[.mem H],by unfold vZ uF;rw[if_neg (by rw[h];decide)];exact⟨rfl,rfl⟩,aR hS⟩
 have hb:=nB hm
 unfold iG at hS
 rw[hx.aI,hx.kind,hx.mark]at hS
 refine Gn λw hS=>?_
 refine zn hx.cv ?_
 refine Cg (zP t.aI) λw hS=>?_
 refine Cg (zP t.kind) λw hS=>?_
 refine Cg (zP t.mark) λw hS=>?_
 refine Cg (zP t.changes.length) λw hS=>?_
 refine zD hS (Q_ (iF t.aI) (iF t.kind) (iF t.mark) (iF t.changes.length)) λb w hS=>?_
 have hS:=bI.full (n:=4) (sz:=3) rfl hS
 have hS:SL W (mH _ (oQ t 0)::_) _:=hS
 refine⟨λvs w=>∃(i:Nat) (u:Value),vs=[u,.int .i64 i]/\i<=t.changes.length/\SL W (mH u (oQ t i)::oN xb x t::.mem H::F) w,
  λvs _=>match vs with|[_,.int _ i]=>(t.changes.length-i).toNat|_=>0,⟨0,_,rfl,by omega,aR hS⟩,?_⟩
 clear hS
 rintro u v3 w ⟨i,_,jR,hi,hS⟩
 cases jR
 have uL:=GL t i
 refine Gp ?_
 refine zn hx.cv ?_
 refine b9 (λh=>?_) (λh=>?_)
 ·have b8:i<t.changes.length:=by omega
  have hs:=P4 b8
  refine Gp ?_
  refine zK hS Xh mP hx.cv (x:=t.changes[i]) (by simp[b8]) b8 ?_
  refine Cc (b9t t.changes[i]) ?_;clear hS
  rintro u2 post rfl w hS
  try simp only[app]at hS
  refine yE (L:=oQ t i) hS Xr (rz hS Xh) (by simp[pL];omega) λu4 w hS=>?_
  refine Gp ?_
  refine⟨⟨i+1,_,rfl,by omega,?_⟩,by dsimp only;omega⟩
  rw[hs]
  exact aR hS
 ·have nf:i=t.changes.length:=by omega
  subst nf
  refine Gp ?_
  refine zn hx.sv ?_
  refine Cg (zP t.signals.length) λw hS=>?_;refine Gm λb w hS=>?_
  refine yE (L:=oQ t t.changes.length) (M:=[iF t.signals.length]) hS Xr (Dl hS Xh) (by simp;omega) λu3 w hS=>?_
  refine⟨λvs w=>∃(i:Nat) (u:Value),vs=[u,.int .i64 i]/\i<=t.signals.length/\SL W (mH u (p6 t i)::oN xb x t::.mem H::F) w,
   λvs _=>match vs with|[_,.int _ i]=>(t.signals.length-i).toNat|_=>0,⟨0,u3,rfl,by omega,?_⟩,?_⟩
  ·rw[show p6 t 0=oQ t t.changes.length++[iF t.signals.length] by unfold p6;simp]
   exact aR hS
  clear hS
  rintro u v3 w ⟨i,_,jR,hi,hS⟩
  cases jR
  have Ee:=P6 t i
  refine Gp ?_
  refine zn hx.sv ?_
  refine b9 (λh=>?_) (λh=>?_)
  ·have b8:i<t.signals.length:=by omega
   have hs:=P7 b8
   refine Gp ?_
   refine yn hS Xh hx.sv b8 (u:=.string t.signals[i]) (by simp[b8]) ?_
   refine Cg (Zf t.signals[i]) λw hS=>?_;refine Gm λb w hS=>?_
   refine yE (L:=p6 t i) (M:=[tF t.signals[i]]) hS Xr (Dl hS Xh) (by simp;omega) λu3 w hS=>?_
   refine Gp ?_
   refine⟨⟨i+1,_,rfl,by omega,?_⟩,by dsimp only;omega⟩
   rw[hs]
   exact aR hS
  ·have nf:i=t.signals.length:=by omega
   subst nf
   rw[P5]at hS Ee
   refine Cc (yY (mH u (mV t)) u (mV t) rG.own (by omega)) ?_;clear hS
   rintro r post hq w hS
   try simp only[app]at hS
   unfold sf at hq
   unfold vZ uF
   rw[if_pos hm]
   cases he:po (mV t) with
   | error e=>
    rw[he]at hq
    obtain⟨rfl,rfl⟩:=hq
    (try simp only[app]at hS);refine Gp ?_
    exact fw hS
   | ok bs=>
    rw[he]at hq
    obtain⟨v,rfl,rfl⟩:=hq
    (try simp only[app]at hS);refine Gp ?_
    exact⟨_,⟨v,rfl,rfl⟩,aR hS⟩
structure sd{α:Type}(one:e_->α × e_)(n:Nat)(r0:e_)(xs:List α)(k:Nat)(r:e_):Prop where
 eq:jK one n r0=(xs++(jK one k r).1,(jK one k r).2)
 le:xs.length+k<=n
theorem sd.start{α:Type}(one:e_->α × e_)(n:Nat)(r:e_):sd one n r [] n r:=⟨rfl,by simp⟩
theorem sd.step{α:Type}{one:e_->α × e_}{n:Nat}{r0:e_}{xs:List α}{k:Nat}{r:e_}(h:sd one n r0 xs (k+1) r):sd one n r0 (xs++[(one r).1]) k (one r).2:=
 ⟨by rw[h.eq];simp[jK],by have:=h.le;rw[List.length_append,List.length_singleton];omega⟩
theorem sd.stop{α:Type}{one:e_->α × e_}{n:Nat}{r0:e_}{xs:List α}{r:e_}(h:sd one n r0 xs 0 r):jK one n r0=(xs,r):=by
 rw[h.eq];simp[jK]
theorem Y4(rp:Nat)(r:e_):SP 161 [.pointer (some ⟨rp,0,none⟩)] [.ob (kr rp r)] (eW (agg (jE (na r).1)) [.ob (kr rp (na r).2)]):=by
 intro W F w hS;apply cWc;delta KV ai dw;(try simp only[app]at hS)
 refine Gm λb w hS=>?_
 refine Cg (z6 rp r 8) λw hS=>?_
 refine Cg (yH rp _) λw hS=>?_
 refine Cg (QJ rp _) λw hS=>?_
 refine Cg (y6 rp _) λw hS=>?_
 simp only[na]
 exact fw hS
theorem rM{aI kind mark:Int}{cv sv:Value}(h1:cv.oneCell'=true)(h2:sv.oneCell'=true):∀v∈iG ⟨aI,kind,cv,sv,mark⟩,v.oneCell'=true:=by
 intro v hv
 simp only[iG,List.mem_cons,List.not_mem_nil,or_false]at hv
 rcases hv with rfl|rfl|rfl|rfl|rfl
 ·rfl
 ·rfl
 ·exact h1
 ·exact h2
 ·rfl
def uq:mu:=⟨0,0,.slice none 0 0,.slice none 0 0,0⟩
abbrev wi(b:Nat):Chunk:=.pt b [.int .i64 0,.int .i64 0,.slice none 0 0,.slice none 0 0,.int .i64 0] 39
def sS(X:Chunk)(H:bw)(b:List UInt8)(u:Value)(post:List Chunk):Prop:=match mw b with
 | .error e=>e≠0/\∃H',H.le H'/\u= .tuple #[agg (iG uq),.int .i64 e]/\post=[X,.mem H']
 | .ok t=>∃x H',H.le H'/\u= .tuple #[agg (iG x),.int .i64 0]/\kS H' x t/\post=[X,.mem H']
theorem PD{b:List UInt8}{e:Int}(h:lL b= .error e):mw b= .error e:=by unfold mw;rw[h]
theorem XE{b:List UInt8}{l:List ie}(h:lL b= .ok l)(h2:¬((nq ⟨l,false⟩).2.bad=false/\(nq ⟨l,false⟩).2.l=[]/\ji (nq ⟨l,false⟩).1=true)):mw b= .error 3:=by
 unfold mw wq;rw[h];simp only;rw[if_neg h2]
theorem XD{b:List UInt8}{l:List ie}(h:lL b= .ok l)(h2:(nq ⟨l,false⟩).2.bad=false/\(nq ⟨l,false⟩).2.l=[]/\ji (nq ⟨l,false⟩).1=true):mw b= .ok (nq ⟨l,false⟩).1:=by
 unfold mw wq;rw[h];simp only;rw[if_pos h2]
abbrev ur(v:Value)(l:List iy):Chunk:=.ob (bI v 82 4 l.length (l.map jE).flatten)
abbrev uw(v:Value)(l:List ByteArray):Chunk:=.ob (bI v 9 1 l.length (l.map λs=>[Value.string s]).flatten)
theorem U8(l:List ByteArray):(l.map λs=>[Value.string s]).flatten=l.map Value.string:=by
 induction l with
 | nil=>rfl
 | cons a l ih=>simp[ih]
structure F2(l:List ie)(aI kind mark:Int)(r3:e_):Prop where
 aI:(nq ⟨l,false⟩).1.aI=aI
 kind:(nq ⟨l,false⟩).1.kind=kind
 mark:(nq ⟨l,false⟩).1.mark=mark
 ch:(nq ⟨l,false⟩).1.changes=(jK na (iN 16 r3).1.toNat (iN 16 r3).2).1
 sg:∀r4,(jK na (iN 16 r3).1.toNat (iN 16 r3).2).2=r4->(nq ⟨l,false⟩).1.signals=(jK jF (iN 2 r4).1.toNat (iN 2 r4).2).1/\(nq ⟨l,false⟩).2=(jK jF (iN 2 r4).1.toNat (iN 2 r4).2).2
theorem F2.is(l:List ie):F2 l (ko ⟨l,false⟩).1 (iN 3 (ko ⟨l,false⟩).2).1 (ko (iN 3 (ko ⟨l,false⟩).2).2).1 (ko (iN 3 (ko ⟨l,false⟩).2).2).2:=⟨rfl,rfl,rfl,rfl,λr4 h=>by subst h;exact⟨rfl,rfl⟩⟩
theorem QM(X:Chunk)(H:bw)(v:Value)(bs:List UInt8)(hv:ix X v bs):SP 72 [v] [X,.mem H] (sS X H bs):=by
 intro W F w hS;apply dR5;delta Oe aF aW dW ai dw bR;(try simp only[app]at hS)
 refine Gb λzb w hS=>?_
 refine Cc (y4 X v bs hv) ?_;clear hS
 rintro r post hq w hS
 unfold se at hq
 cases hd:lL bs with
 | error e=>
  rw[hd]at hq
  obtain⟨rfl,rfl⟩:=hq
  have he:=DW hd
  (try simp only[app]at hS);refine Gp ?_
  refine za (λ_=>?_) (λh=>absurd he h)
  refine Gn λw hS=>?_
  exact⟨[X,.mem H],by unfold sS;rw[PD hd];exact⟨he,H,bw.le_refl H,rfl,rfl⟩,aR hS⟩
 | ok l=>
  rw[hd]at hq
  obtain⟨lv,rfl,rfl⟩:=hq
  (try simp only[app]at hS);refine Gp ?_
  refine za (λh=>absurd rfl h) (λ_=>?_)
  refine Cc (Yc lv l) ?_;clear hS
  rintro _ post ⟨rp,rfl,rfl⟩ w hS
  try simp only[app]at hS
  refine Cc (yH rp ⟨l,false⟩) ?_;clear hS
  rintro v1 post ⟨rfl,rfl⟩ w hS
  try simp only[app]at hS
  refine Cc (z6 rp _ 3) ?_;clear hS
  rintro v1 post ⟨rfl,rfl⟩ w hS
  try simp only[app]at hS
  refine Cc (yH rp _) ?_;clear hS
  rintro v1 post ⟨rfl,rfl⟩ w hS
  try simp only[app]at hS
  have hI:=F2.is l
  generalize (ko (iN 3 (ko ⟨l,false⟩).2).2).1=mark at *
  generalize (ko (iN 3 (ko ⟨l,false⟩).2).2).2=r3 at *
  generalize (iN 3 (ko ⟨l,false⟩).2).1=kind at *
  generalize (ko ⟨l,false⟩).1=aI at *
  have xT:=FC (m:=16) (by decide) r3
  refine Gp ?_
  refine Gb λxb w hS=>?_
  have hS:SL W (ur (.slice none 0 0) []::_) _:=bI.nil hS
  have hS:SL W (uw (.slice none 0 0) []::_) _:=bI.nil hS
  refine Cc (z6 rp r3 16) ?_;clear hS
  rintro v1 post ⟨rfl,rfl⟩ w hS
  try simp only[app]at hS
  have nY:=hI.ch
  have Sx:=hI.sg
  generalize (iN 16 r3).1=n1 at *
  generalize (iN 16 r3).2=r2 at *
  refine⟨λus w=>∃(k:Nat) (k8:List iy) (r:e_) (cv:Value),us=[.int .i64 k]/\sd na n1.toNat r2 k8 k r/\SL W (ur cv k8::.ob (kr rp r)::uw (.slice none 0 0) []::.pt xb [.int .i64 aI,.int .i64 kind,cv,.slice none 0 0,.int .i64 mark] 39::wi zb::X::.mem H::F) w,
   λus _=>match us with|[.int _ i]=>i.toNat|_=>0,⟨n1.toNat,[],r2,.slice none 0 0,by rw[show ((n1.toNat:Nat):Int)=n1 by omega],sd.start _ _ _,aR hS⟩,?_⟩
  clear hS
  rintro v8 w ⟨k,k8,r,cv,dR,hM,hS⟩
  cases dR
  have hle:=hM.le
  refine b9 (λh=>?_) (λh=>?_)
  ·obtain⟨k,rfl⟩:∃j,k=j+1:=⟨k-1,by omega⟩
   have hM:=hM.step
   refine Gn λw hS=>?_
   refine Cg (Y4 rp r) λw hS=>?_;refine Gm λb w hS=>?_
   refine zX (n:=k8.length) (xs:=k8) (y:=(na r).1) (enc:=jE) hS Xr Xh mP (λx=>GF x) rfl (by omega) (by omega) λu w hS=>?_
   have h1:=bI.one hS
   refine Gn λw hS=>?_
   refine⟨⟨k,_,_,u,by rw[show ((k+1:Nat):Int)-1=(k:Int) by omega],hM,?_⟩,by dsimp only;omega⟩
   have hS:=hS.o9 (x:=(na r).1)
   exact aR hS
  ·obtain rfl:k=0:=by omega
   rw[hM.stop]at nY Sx
   obtain⟨A3,iA⟩:=Sx r rfl
   have HD:=FC (m:=2) (by decide) r
   refine Cc (z6 rp r 2) ?_;clear hS
   rintro v1 post ⟨rfl,rfl⟩ w hS
   try simp only[app]at hS
   generalize (iN 2 r).1=n2 at *
   generalize (iN 2 r).2=r5 at *
   refine⟨λus w=>∃(k:Nat) (sR:List ByteArray) (r:e_) (sv:Value),us=[.int .i64 k]/\sd jF n2.toNat r5 sR k r/\SL W (uw sv sR::.ob (kr rp r)::ur cv k8::.pt xb [.int .i64 aI,.int .i64 kind,cv,sv,.int .i64 mark] 39::wi zb::X::.mem H::F) w,
    λus _=>match us with|[.int _ i]=>i.toNat|_=>0,⟨n2.toNat,[],r5,.slice none 0 0,by rw[show ((n2.toNat:Nat):Int)=n2 by omega],sd.start _ _ _,aR hS⟩,?_⟩
   clear hS
   rintro v8 w ⟨k,sR,r,sv,dR,p9,hS⟩
   cases dR
   have hle:=p9.le
   refine b9 (λh=>?_) (λh=>?_)
   ·obtain⟨k,rfl⟩:∃j,k=j+1:=⟨k-1,by omega⟩
    have p9:=p9.step
    refine Gn λw hS=>?_
    refine Cg (y6 rp r) λw hS=>?_;refine Gm λb w hS=>?_
    refine zX (n:=sR.length) (xs:=sR) (y:=(jF r).1) (enc:=λs=>[Value.string s]) hS Xr Xh (λ_=>rfl) (by simp[Value.oneCell']) rfl (by omega) (by omega) λu w hS=>?_
    have h1:=bI.one hS
    refine Gn λw hS=>?_
    refine⟨⟨k,_,_,u,by rw[show ((k+1:Nat):Int)-1=(k:Int) by omega],p9,?_⟩,by dsimp only;omega⟩
    have hS:=hS.o9 (x:=(jF r).1)
    exact aR hS
   ·obtain rfl:k=0:=by omega
    rw[p9.stop]at A3 iA
    have sG:=hI.aI
    have Hp:=hI.kind
    have Hx:=hI.mark
    have nY:(nq ⟨l,false⟩).1.changes=k8:=nY
    have A3:(nq ⟨l,false⟩).1.signals=sR:=A3
    have iA:(nq ⟨l,false⟩).2=r:=iA
    generalize ht:(nq ⟨l,false⟩).1=t at *
    generalize hr:(nq ⟨l,false⟩).2=r' at *
    subst iA nY A3
    obtain⟨H1,fF,hO,hS⟩:=bI.freeze (SL.b_ hS (t:=.mem H::ur cv t.changes::uw sv t.signals::.ob (kr rp r')::.pt xb [.int .i64 aI,.int .i64 kind,cv,sv,.int .i64 mark] 39::wi zb::X::F) Xi)
    obtain⟨H2,f',hN,hS⟩:=bI.freeze hS
    rw[U8]at hN
    have hx:kS H2 ⟨aI,kind,cv,sv,mark⟩ t:=⟨sG.symm,Hp.symm,Hx.symm,hO.mono f',hN⟩
    have iS:=bw.le_trans fF f'
    have kD:=hO.one
    have nJ:=hN.one
    refine Cg (Ya rp r') λw hS=>?_
    have iT:¬(r'.bad=false/\r'.l=[]/\ji t=true)->∀{w:World},SL W (X::.mem H2::F) w->∃post,sS X H bs (.tuple #[agg (iG uq),.int .i64 3]) post/\SL W (app post F) w:=λh w hS=>⟨[X,.mem H2],by unfold sS;rw[XE hd (by rw[ht,hr];exact h)];exact⟨by decide,H2,iS,rfl,rfl⟩,hS⟩
    refine zz (λhb=>?_) (λhb=>?_)
    ·have hb:=of_decide_eq_false hb
     refine Gn λw hS=>?_
     exact iT (λh=>hb ⟨h.1,h.2.1⟩) (aR hS)
    ·have hb:=of_decide_eq_true hb
     refine Gp ?_
     refine Cg (yx H2 ⟨aI,kind,cv,sv,mark⟩ t hx) λw hS=>?_
     refine zz (λhm=>?_) (λhm=>?_)
     ·refine Gn λw hS=>?_
      exact iT (λh=>by rw[h.2.2]at hm;cases hm) (aR hS)
     ·refine Gp ?_
      refine zB (vs:=iG ⟨aI,kind,cv,sv,mark⟩) hS Xu rfl rfl (rM kD nJ) λw hS=>?_
      refine Gp ?_
      exact⟨[X,.mem H2],by unfold sS;rw[XD hd (by rw[ht,hr];exact⟨hb.1,hb.2,hm⟩),ht];exact⟨⟨aI,kind,cv,sv,mark⟩,H2,iS,rfl,hx,rfl⟩,aR hS⟩
theorem Yw(H:bw)(v:Value)(C:List Row)(hC:fW H 2 v C.length (C.map iu).flatten)(hn:C.length<=140737488351232):SP 288 [v] [.mem H] (eW (.bool (nA C)) [.mem H]):=by
 intro W F w hS;apply dFt;delta MY aF a_ cw ai dw;(try simp only[app]at hS)
 refine zn hC ?_
 refine⟨λus w=>∃(i:Nat) (k:Int),us=[.int .i64 k,.int .i64 i]/\i<=C.length/\sP 0 C=sP k (C.drop i)/\SL W (.mem H::F) w,λus _=>match us with|[_,.int _ i]=>(C.length-i).toNat|_=>0,⟨0,0,rfl,by omega,rfl,hS⟩,?_⟩
 clear hS
 rintro v3 v8 w ⟨i,k,dR,hi,hr,hS⟩
 cases dR
 refine b9 (λh=>?_) (λh=>?_)
 ·have b8:i<C.length:=by omega
  rw[List.drop_eq_getElem_cons b8,sP]at hr
  refine zK hS Xh jG hC (x:=C[i]) (by simp[b8]) b8 ?_
  generalize C[i]=r at *
  obtain⟨rk,rv⟩:=r
  have hF:∀{w:World} {b:Nat},¬(k<rk/\rk<=1099511627776/\rv.size<=32)->SL W (.pt b [.int .i64 rk,.string rv] 52::.mem H::F) w->∃post,eW (.bool (nA C)) [.mem H] (.bool false) post/\SL W (app post F) w:=λiT hS=>
   ⟨_,⟨by unfold nA;rw[hr,decide_eq_false iT];rfl,rfl⟩,aR hS⟩
  rw[D2]
  refine Gm λb w hS=>?_
  refine za (λh1=>hF (by omega) hS) (λh1=>?_)
  refine Gp ?_
  refine za (λh2=>hF (by omega) hS) (λh2=>?_)
  refine Gp ?_
  refine za (λh3=>hF (by omega) hS) (λh3=>?_)
  refine Gp ?_
  refine⟨⟨i+1,rk,rfl,by omega,?_,aR hS⟩,by dsimp only;omega⟩
  rw[hr,decide_eq_true (show k<rk/\rk<=1099511627776/\rv.size<=32 by omega)];rfl
 ·have nf:i=C.length:=by omega
  subst nf
  rw[List.drop_length]at hr
  refine zn hC ?_
  refine Gp ?_
  have e:nA C=decide ((C.length:Int)<=1000):=by
   unfold nA;rw[hr]
   show (true && _)=_
   rw[Bool.true_and,decide_eq_decide];omega
  rw[e]
  (exact fw hS)
def u_(H:bw)(v:Value)(ts:List (List Row)):Prop:=∃vs,fW H 1 v ts.length vs/\mT H vs ts
theorem yt{H:bw}{v:Value}{ts:List (List Row)}{K:Value->Prop}(h:u_ H v ts)(k:K (.int .i64 ts.length)):zd v K:=by
 obtain⟨vs,h1,_⟩:=h
 exact zn h1 k
theorem qe{W w:World}{l:List Chunk}{H:bw}{v:Value}{ts:List (List Row)}{j:Nat}{k:IntKind}{K:Value->Prop}(hS:SL W l w)(hm:Has (.mem H) l)(h:u_ H v ts)(hj:j<ts.length)
  (hK:∀u,fW H 2 u ts[j].length (ts[j].map iu).flatten->K u):ze 1 v (.int k (j:Int)) λp=>cI p w K:=by
 obtain⟨vs,h1,h2⟩:=h
 have hl:=h2.1
 have hu:vs[j]?=some (vs[j]'(by omega)):=List.getElem?_eq_getElem (by omega)
 exact yn hS hm h1 hj hu (hK _ (h2.2 j _ _ hu (List.getElem?_eq_getElem hj)))
theorem Y5(H:bw)(v:Value)(aI:Int)(ts:List (List Row))(hv:u_ H v ts)(hn:ts.length<=140737488351232)(hc:∀C∈ts,C.length<=140737488351232):SP 230 [.int .i64 aI,v] [.mem H] (eW (.bool (lD aI ts)) [.mem H]):=by
 intro W F w hS;apply dwa;delta L3 aF dW cw ai;(try simp only[app]at hS)
 have hF:∀{w:World},¬(0<=aI/\aI<=1099511627776/\1<=ts.length/\ts.length<=8)->SL W (.mem H::F) w->∃post,eW (.bool (lD aI ts)) [.mem H] (.bool false) post/\SL W (app post F) w:=λiT hS=>⟨_,⟨by unfold lD;rw[decide_eq_false iT];rfl,rfl⟩,hS⟩
 refine Gp ?_
 refine za (λh=>hF (by omega) hS) (λh1=>?_)
 refine Gp ?_
 refine za (λh=>hF (by omega) hS) (λh2=>?_)
 refine yt hv ?_
 refine Gp ?_
 refine za (λh=>hF (by omega) hS) (λh3=>?_)
 refine yt hv ?_
 refine Gp ?_
 refine za (λh=>hF (by omega) hS) (λh4=>?_)
 refine yt hv ?_
 have hM:lD aI ts=ts.all nA:=by unfold lD;rw[decide_eq_true (show 0<=aI/\aI<=1099511627776/\1<=ts.length/\ts.length<=8 by omega)];rfl
 refine⟨λus w=>∃i:Nat,us=[.int .i64 i]/\i<=ts.length/\(∀j (h:j<ts.length),j<i->nA ts[j]=true)/\SL W (.mem H::F) w,λus _=>match us with|[.int _ i]=>(ts.length-i).toNat|_=>0,⟨0,rfl,by omega,λj h hj=>by omega,hS⟩,?_⟩
 clear hS
 rintro v25 w ⟨i,dR,hi,iD,hS⟩
 cases dR
 refine b9 (λh=>?_) (λh=>?_)
 ·have b8:i<ts.length:=by omega
  refine qe hS Xh hv b8 λu hu=>?_
  refine Cg (Yw H u ts[i] hu (hc _ (List.getElem_mem b8))) λw hS=>?_
  refine zz (λhb=>?_) (λhb=>?_)
  ·refine⟨_,⟨?_,rfl⟩,hS⟩
   rw[hM,show ts.all nA=false from List.all_eq_false.2 ⟨_,List.getElem_mem b8,by rw[hb];decide⟩]
  ·refine Gp ?_
   refine⟨⟨i+1,rfl,by omega,λj hj ll=>?_,hS⟩,by dsimp only;omega⟩
   by_cases e:j=i
   ·subst e;exact hb
   ·exact iD j hj (by omega)
 ·refine⟨_,⟨?_,rfl⟩,hS⟩
  rw[hM,show ts.all nA=true from List.all_eq_true.2 λC hC=>by
   obtain⟨j,hj,rfl⟩:=List.getElem_of_mem hC
   exact iD j hj (by omega)]
def tL(aI:Int)(ts:List (List Row))(i:Nat):List ie:=[iF aI,iF ts.length]++((ts.take i).map p8).flatten
def s8(aI:Int)(ts:List (List Row))(i:Nat)(C:List Row)(j:Nat):List ie:=tL aI ts i++(iF C.length::((C.take j).map uH).flatten)
theorem X8{aI:Int}{ts:List (List Row)}{i:Nat}(h:i<ts.length):tL aI ts (i+1)=s8 aI ts i ts[i] ts[i].length:=by
 unfold tL s8 tL p8
 rw[List.take_succ_eq_append_getElem h,List.map_append,List.flatten_append,List.map_singleton,List.flatten_singleton,List.take_length,List.append_assoc]
theorem X_{aI:Int}{ts:List (List Row)}{i:Nat}{C:List Row}{j:Nat}(h:j<C.length):s8 aI ts i C (j+1)=s8 aI ts i C j++[iF C[j].key]++[tF C[j].val]:=by
 unfold s8
 rw[List.take_succ_eq_append_getElem h,List.map_append,List.flatten_append,List.map_singleton,List.flatten_singleton]
 simp[uH]
theorem X7(aI:Int)(ts:List (List Row)):tL aI ts ts.length=pq aI ts:=by unfold tL pq;rw[List.take_length]
theorem P3{aI:Int}{ts:List (List Row)}(h:∀C∈ts,C.length<=1000)(i:Nat):(tL aI ts i).length<=2+ts.length*2001:=by
 have k:=xy (f:=p8) (k:=2001) (ts.take i) λC hC=>by rw[P8];have:=h C (List.mem_of_mem_take hC);omega
 have:(ts.take i).length*2001<=ts.length*2001:=Nat.mul_le_mul_right _ (by rw[List.length_take];omega)
 unfold tL
 rw[List.length_append]
 simp only[List.length_cons,List.length_nil]
 omega
theorem X9{aI:Int}{ts:List (List Row)}(h:∀C∈ts,C.length<=1000)(i:Nat){C:List Row}(hC:C.length<=1000)(j:Nat):(s8 aI ts i C j).length<=2003+ts.length*2001:=by
 have h1:=P3 (aI:=aI) h i
 unfold s8
 rw[List.length_append,List.length_cons,D8 (f:=uH) (k:=2) (λ_=>rfl),List.length_take]
 omega
def FO(H:bw)(aI:Int)(ts:List (List Row))(u:Value)(post:List Chunk):Prop:=match GI aI ts with
 | .error e=>u= .tuple #[.slice none 0 0,.int .i64 e]/\post=[.mem H]
 | .ok b=>∃v,u= .tuple #[v,.int .i64 0]/\post=[.ob (bI v 5 1 b.length (b.map fI)),.mem H]
theorem cFq(r:e_):pa r=iX tx (iN 1000 r).1.toNat (iN 1000 r).2:=rfl
theorem QL(rp:Nat)(r:e_):SP 282 [.pointer (some ⟨rp,0,none⟩)] [.ob (kr rp r)] (λv post=>(pa r).1.length<=1000/\post=[jC v (pa r).1,.ob (kr rp (pa r).2)]):=by
 intro W F w hS;apply dFn;delta MR aF ai dw bR;(try simp only[app]at hS)
 rw[cFq]
 have xT:=FC (m:=1000) (by decide) r
 refine Cc (z6 rp r 1000) ?_;clear hS
 rintro v1 post ⟨rfl,rfl⟩ w hS
 try simp only[app]at hS
 generalize (iN 1000 r).1=n1 at *
 generalize (iN 1000 r).2=r2 at *
 have hS:SL W (jC (.slice none 0 0) []::_) _:=bI.nil hS
 refine⟨λus w=>∃(k:Nat) (rs:List Row) (r:e_) (rv:Value),us=[rv,.int .i64 k]/\nT tx n1.toNat r2 rs k r/\SL W (jC rv rs::.ob (kr rp r)::F) w,
  λus _=>match us with|[_,.int _ i]=>i.toNat|_=>0,⟨n1.toNat,[],r2,.slice none 0 0,by rw[show ((n1.toNat:Nat):Int)=n1 by omega],nT.start _ _ _,aR hS⟩,?_⟩
 clear hS
 rintro v3 v4 w ⟨k,rs,r,rv,dR,hM,hS⟩
 cases dR
 have hle:=hM.le
 refine b9 (λh=>?_) (λh=>?_)
 ·obtain⟨k,rfl⟩:∃j,k=j+1:=⟨k-1,by omega⟩
  refine Cg (QI rp r) λw hS=>?_
  refine zz (λhb=>?_) (λhb=>?_)
  ·have hM:=hM.step hb
   refine Cc (yH rp r) ?_;clear hS
   rintro v1 post ⟨rfl,rfl⟩ w hS
   try simp only[app]at hS
   refine Cg (y6 rp _) λw hS=>?_;refine Gm λb w hS=>?_
   refine zX (n:=rs.length) (xs:=rs) (y:=(tx r).1) (enc:=iu) hS Xr Xh jG (λx=>s7 x) rfl (by omega) (by omega) λu w hS=>?_
   refine Gp ?_
   refine⟨⟨k,_,_,u,by rw[show ((k+1:Nat):Int)-1=(k:Int) by omega],hM,?_⟩,by dsimp only;omega⟩
   have hS:=hS.o9 (x:=(tx r).1)
   have hS:SL W (jC u (rs++[(tx r).1])::_::.ob (kr rp (tx r).2)::F) _:=hS
   exact aR hS
  ·rw[hM.stop (.inr hb)]
   exact⟨_,⟨by show rs.length<=1000;omega,rfl⟩,aR hS⟩
 ·rw[hM.stop (.inl (by omega))]
  exact⟨_,⟨by show rs.length<=1000;omega,rfl⟩,aR hS⟩
theorem mT.nil(H:bw):mT H [] []:=⟨rfl,λi v C h1 h2=>by simp at h1⟩
theorem mT.snoc{H:bw}{vs:List Value}{ts:List (List Row)}(h:mT H vs ts){v:Value}{C:List Row}(hv:fW H 2 v C.length (C.map iu).flatten):mT H (vs++[v]) (ts++[C]):=by
 have hl:=h.1
 refine⟨by rw[List.length_append,List.length_append,hl];rfl,λi u D h1 h2=>?_⟩
 rcases Nat.lt_or_ge i vs.length with hi|hi
 ·rw[List.getElem?_append_left hi]at h1
  rw[List.getElem?_append_left (by omega)]at h2
  exact h.2 i u D h1 h2
 ·rw[List.getElem?_append_right hi]at h1
  rw[List.getElem?_append_right (by omega)]at h2
  obtain⟨e,rfl⟩:i-vs.length=0/\v=u:=by
   cases hk:i-vs.length with
   | zero=>rw[hk]at h1;exact⟨rfl,by simpa using h1⟩
   | succ n=>rw[hk]at h1;simp at h1
  rw[show i-ts.length=0 by omega]at h2
  obtain rfl:C=D:=by simpa using h2
  exact hv
def Bw(X:Chunk)(H:bw)(b:List UInt8)(u:Value)(post:List Chunk):Prop:=match l7 b with
 | none=>u= .tuple #[.int .i64 0,.slice none 0 0,.int .i64 3]/\∃H',H.le H'/\post=[X,.mem H']
 | some x=>∃v H',H.le H'/\u_ H' v x.2/\u= .tuple #[.int .i64 x.1,v,.int .i64 0]/\post=[X,.mem H']
theorem SS{l:List ie}(h:¬((n4 ⟨l,false⟩).2.bad=false/\(n4 ⟨l,false⟩).2.l=[]/\lD (n4 ⟨l,false⟩).1.1 (n4 ⟨l,false⟩).1.2=true)):sI l=none:=by
 unfold sI;simp only;rw[if_neg h]
theorem bw4{l:List ie}(h:(n4 ⟨l,false⟩).2.bad=false/\(n4 ⟨l,false⟩).2.l=[]/\lD (n4 ⟨l,false⟩).1.1 (n4 ⟨l,false⟩).1.2=true):sI l=some (n4 ⟨l,false⟩).1:=by
 unfold sI;simp only;rw[if_pos h]
structure FQ(l:List ie)(aI:Int)(r1:e_):Prop where
 aI:(n4 ⟨l,false⟩).1.1=aI
 ts:(n4 ⟨l,false⟩).1.2=(jK pa (iN 8 r1).1.toNat (iN 8 r1).2).1
 rd:(n4 ⟨l,false⟩).2=(jK pa (iN 8 r1).1.toNat (iN 8 r1).2).2
theorem FQ.is(l:List ie):FQ l (ko ⟨l,false⟩).1 (ko ⟨l,false⟩).2:=⟨rfl,rfl,rfl⟩
theorem qG(X:Chunk)(H:bw)(v:Value)(bs:List UInt8)(hv:ix X v bs)(hN:bs.length<=140737488355328):SP 219 [v] [X,.mem H] (Bw X H bs):=by
 intro W F w hS;apply c_x;delta LN aF dW ai bR;(try simp only[app]at hS)
 have iT:l7 bs=none->∀{w:World} {H':bw},H.le H'->SL W (X::.mem H'::F) w->∃post,Bw X H bs (.tuple #[.int .i64 0,.slice none 0 0,.int .i64 3]) post/\SL W (app post F) w:=λh w H' hh hS=>⟨[X,.mem H'],by unfold Bw;rw[h];exact⟨rfl,H',hh,rfl⟩,hS⟩
 refine Cc (YU X v bs hv hN) ?_;clear hS
 rintro r post hq w hS
 unfold sX at hq
 cases ht:lj bs with
 | error e=>
  rw[ht]at hq
  obtain⟨rfl,rfl⟩:=hq
  have hd:l7 bs=none:=by unfold l7;rw[ht]
  have he:e≠0:=by have:=FG ht;omega
  (try simp only[app]at hS);refine Gp ?_
  exact za (λ_=>iT hd (bw.le_refl H) (aR hS)) (λh=>absurd he h)
 | ok pn=>
  obtain⟨p,n⟩:=pn
  rw[ht]at hq
  obtain⟨pv,rfl,rfl⟩:=hq
  (try simp only[app]at hS);refine Gp ?_
  refine za (λh=>absurd rfl h) (λ_=>?_)
  refine zM hS Xh hv ?_
  refine b9 (λh=>?_) (λh=>?_)
  ·have hd:l7 bs=none:=by unfold l7;rw[ht];simp only;rw[if_neg (by omega)]
   exact iT hd (bw.le_refl H) (aR hS)
  have xU:n=bs.length:=by omega
  refine Cc (y4 _ pv p ix.own) ?_;clear hS
  rintro r post hq w hS
  unfold se at hq
  cases hd:lL p with
  | error e=>
   rw[hd]at hq
   obtain⟨rfl,rfl⟩:=hq
   have he:=DW hd
   have hd:l7 bs=none:=by unfold l7;rw[ht];simp only;rw[if_pos xU,hd]
   (try simp only[app]at hS);refine Gp ?_
   exact za (λ_=>iT hd (bw.le_refl H) (aR hS)) (λh=>absurd he h)
  | ok l=>
   rw[hd]at hq
   obtain⟨lv,rfl,rfl⟩:=hq
   have hI:=Gv ht xU hd
   (try simp only[app]at hS);refine Gp ?_
   refine za (λh=>absurd rfl h) (λ_=>?_)
   refine Cc (Yc lv l) ?_;clear hS
   rintro _ post ⟨rp,rfl,rfl⟩ w hS
   try simp only[app]at hS
   refine Cc (yH rp ⟨l,false⟩) ?_;clear hS
   rintro v1 post ⟨rfl,rfl⟩ w hS
   try simp only[app]at hS
   have hR:=FQ.is l
   generalize (ko ⟨l,false⟩).1=aI at *
   generalize (ko ⟨l,false⟩).2=r1 at *
   have xT:=FC (m:=8) (by decide) r1
   refine Cc (z6 rp r1 8) ?_;clear hS
   rintro v1 post ⟨rfl,rfl⟩ w hS
   try simp only[app]at hS
   have nN:=hR.ts
   have iA:=hR.rd
   generalize (iN 8 r1).1=n1 at *
   generalize (iN 8 r1).2=r2 at *
   have hS:SL W (.ob (bI (.slice none 0 0) 53 1 ([]:List (List Row)).length [])::_) _:=bI.nil hS
   refine⟨λus w=>∃(k:Nat) (ts:List (List Row)) (r:e_) (tv:Value) (vs:List Value) (H':bw),us=[tv,.int .i64 k]/\sd pa n1.toNat r2 ts k r/\(∀C∈ts,C.length<=1000)/\H.le H'/\mT H' vs ts/\SL W (.ob (bI tv 53 1 ts.length vs)::.ob (kr rp r)::X::.mem H'::F) w,
    λus _=>match us with|[_,.int _ i]=>i.toNat|_=>0,⟨n1.toNat,[],r2,.slice none 0 0,[],H,by rw[show ((n1.toNat:Nat):Int)=n1 by omega],sd.start _ _ _,by simp,bw.le_refl H,mT.nil H,aR hS⟩,?_⟩
   clear hS
   rintro tv nS w ⟨k,ts,r,_,vs,H',dR,hM,vt,hh,l_,hS⟩
   cases dR
   have hle:=hM.le
   refine b9 (λh=>?_) (λh=>?_)
   ·obtain⟨k,rfl⟩:∃j,k=j+1:=⟨k-1,by omega⟩
    have hM:=hM.step
    refine Cc (QL rp r) ?_;clear hS
    rintro rv post ⟨hl,rfl⟩ w hS
    try simp only[app]at hS
    obtain⟨H2,f',hO,hS⟩:=zu (H:=H') (v:=rv) hS Xp
    have kD:=hO.one
    refine zD hS (D4 kD) λb w hS=>?_
    refine zy (n:=ts.length) (m:=1) hS Xr (lX (cs:=[rv]) hS Xh rfl) rfl rfl (by simpa using kD) (by omega) (by omega) ?_
    clear hS;intro u w hS
    refine Gp ?_
    refine⟨⟨k,_,_,u,vs++[rv],H2,by rw[show ((k+1:Nat):Int)-1=(k:Int) by omega],hM,λC hC=>?_,bw.le_trans hh f',(l_.mono f').snoc hO,?_⟩,by dsimp only;omega⟩
    ·rcases List.mem_append.1 hC with hC|hC
     ·exact vt C hC
     ·rw[List.mem_singleton.1 hC];exact hl
    ·have hS:=hS.o9 (x:=(pa r).1)
     exact aR hS
   ·obtain rfl:k=0:=by omega
    rw[hM.stop]at nN iA
    have nN:(n4 ⟨l,false⟩).1.2=ts:=nN
    have iA:(n4 ⟨l,false⟩).2=r:=iA
    have sG:=hR.aI
    obtain⟨H2,f',hO,hS⟩:=zu (H:=H') (v:=tv) hS Xp
    have iS:=bw.le_trans hh f'
    have hT:u_ H2 tv ts:=⟨vs,hO,l_.mono f'⟩
    refine Cg (Ya rp r) λw hS=>?_
    refine zz (λhb=>?_) (λhb=>?_)
    ·have hb:=of_decide_eq_false hb
     exact iT (by rw[hI];exact SS λh=>hb ⟨by rw[<- iA];exact h.1,by rw[<- iA];exact h.2.1⟩) iS (aR hS)
    ·have hb:=of_decide_eq_true hb
     refine Cg (Y5 H2 tv aI ts hT (by omega) (λC hC=>by have:=vt C hC;omega)) λw hS=>?_
     refine zz (λhm=>?_) (λhm=>?_)
     ·exact iT (by rw[hI];exact SS λh=>by rw[sG,nN,hm]at h;cases h.2.2) iS (aR hS)
     ·skip
      have he:=bw4 (l:=l) ⟨by rw[iA];exact hb.1,by rw[iA];exact hb.2,by rw[sG,nN];exact hm⟩
      refine⟨[X,.mem H2],?_,aR hS⟩
      unfold Bw
      rw[hI,he]
      simp only
      rw[sG,nN]
      exact⟨tv,H2,iS,hT,rfl,rfl⟩
def lA:List g6->Prop
 | []=>True
 | [_]=>True
 | s::t::r=>t.first=s.next/\lA (t::r)
theorem lA.tail{s:g6}{L:List g6}(h:lA (s::L)):lA L:=by
 cases L with
 | nil=>trivial
 | cons t r=>exact h.2
theorem lA.drop{L:List g6}(h:lA L):∀i,lA (L.drop i)
 | 0=>h
 | i+1=>by
  cases L with
  | nil=>exact trivial
  | cons s L=>exact lA.drop h.tail i
theorem lA.snoc:∀{L:List g6} {x:g6},lA L->(L≠[]->x.first=c_ L+1)->lA (L++[x])
 | [],x,_,_=>trivial
 | [s],x,_,h=>⟨by have:=h (by simp);simp only[c_,List.getLast?_singleton]at this;omega,trivial⟩
 | s::t::r,x,h,hx=>by
  refine⟨h.1,?_⟩
  refine lA.snoc (L:=t::r) h.2 λ_=>?_
  have:=hx (by simp)
  simp only[c_,List.getLast?_cons_cons]at this ⊢
  exact this
theorem lA.last:∀{A:List g6} {s t:g6},lA (A++[s])->t.first=s.first->lA (A++[t])
 | [],s,t,_,_=>trivial
 | [a],s,t,h,e=>⟨by rw[e];exact h.1,trivial⟩
 | a::b::r,s,t,h,e=>⟨h.1,lA.last (A:=b::r) h.2 e⟩
def VL(g:iq):Prop:=∀x,g.iw=some x->0<=x.file/\x.file<=100000/\(x.fresh=false->∃s,g.bW.getLast?=some s/\s.file=x.file/\x.oS=s.size)/\(x.fresh=true->∀s,g.bW.getLast?=some s->s.file≠x.file)
structure oM(g:iq)(M:Nat):Prop where
 ok:g.Ok M
 seq:lA g.bW
 hd:c_ g.bW<=1099511627776
 iw:VL g
theorem oM.mono{g:iq}{N M:Nat}(h:oM g N)(hm:N<=M):oM g M:=⟨h.ok.mono hm,h.seq,h.hd,h.iw⟩
theorem TF(g:iq)(d:DS):(ik g d).1.1.iw=if (ik g d).2=0 then none else g.iw:=by
 unfold ik
 split
 ·rename_i h;simp[h]
 ·rename_i x h
  simp only
  split<;>simp[h]
theorem bI6{g:iq}{d:DS}{M:Nat}(h:oM g M):oM (ik g d).1.1 M:=by
 obtain⟨h1,h2,h3⟩:=wP g d
 refine⟨Ix h.ok,by rw[h1];exact h.seq,by rw[h1];exact h.hd,λx hx=>?_⟩
 rw[TF]at hx
 split at hx
 ·cases hx
 ·rw[h1];exact h.iw x hx
theorem Et(A:List g6)(s:g6):c_ (A++[s])=s.next-1:=by
 unfold c_;rw[List.getLast?_concat]
theorem b8f{g:iq}{M:Nat}(h:oM g M){p:List UInt8}{x:lY}(hw:Ao g p x)(ht:g.iw=none):oM {g with bW:=l5 g.bW x p} (M+(28+p.length)):=by
 obtain⟨k1,k2⟩:=IS h.ok hw
 have hb:=h.ok
 have Cs:=hw.hd
 obtain⟨A,s,hA⟩:=Fk hw
 have CR:lA (A++[s])/\s.next-1<=c_ g.bW:=by
  rw[<- hA]
  unfold tm at hA ⊢
  split
  ·rename_i hf
   rw[if_pos hf]at hA
   have hs:=List.append_inj' hA rfl
   have e:s=⟨x.file,c_ g.bW+1,0,[]⟩:=by simpa using hs.2.symm
   refine⟨h.seq.snoc λ_=>rfl,?_⟩
   rw[e];simp[g6.next]
  ·rename_i hf
   rw[if_neg hf]at hA
   refine⟨h.seq,?_⟩
   rw[hA,Et];exact Int.le_refl _
 rw[Bh _ _ _ hA]at k1 k2 ⊢
 refine⟨⟨k1,hb.b0,hb.b1,hb.s0,hb.s1,by show (A++[tD s x.b.length p]).length<=_;omega⟩,CR.1.last rfl,?_,λy hy=>?_⟩
 ·show c_ (A++[tD s x.b.length p])<=_
  rw[Et]
  have e:(tD s x.b.length p).next=s.next+1:=by simp[g6.next,tD];omega
  rw[e];omega
 ·have:g.iw=some y:=hy
  rw[ht]at this;cases this
theorem Wh{g:iq}{d:DS}{M:Nat}(h:oM g M)(p:List UInt8):oM (kn g d p).1.1 (M+(28+p.length)):=by
 unfold kn
 split
 ·exact h.mono (by omega)
 ·rename_i x hx
  have hw:=IQ h.ok hx
  have hm:=bI6 (d:=d) h
  obtain⟨m1,_,_⟩:=wP g d
  have mt:=TF g d
  simp only
  split
  ·exact hm.mono (by omega)
  ·rename_i h0
   have h0:(ik g d).2=0:=by simpa using h0
   rw[if_pos h0]at mt
   split
   ·exact hm.mono (by omega)
   ·split
    ·exact hm.mono (by omega)
    ·refine b8f hm ⟨hw.pl,by rw[m1];exact hw.hd,by rw[m1];exact hw.tu,hw.f0,hw.bl,hw.pos⟩ mt
theorem bIn{L:List g6}{R:List PF}{f:Int}{last:Bool}(h:lA L)(hh:c_ L<=1099511627776):lA (mA L R f last).2/\c_ (mA L R f last).2<=1099511627776:=by
 unfold mA
 simp only
 split
 ·exact⟨h,hh⟩
 ·split
  ·exact⟨h,hh⟩
  ·rename_i k l n hr hc
   refine⟨h.snoc λhL=>?_,?_⟩
   ·show k=c_ L+1
    have:0<L.length:=List.length_pos_iff.2 hL
    rcases Int.lt_trichotomy k (c_ L+1) with h1|h1|h1
    ·exact absurd (.inr (.inl ⟨this,by omega⟩)) hc
    ·exact h1
    ·exact absurd (.inr (.inl ⟨this,by omega⟩)) hc
   ·show c_ (L++[_])<=_
    rw[Et]
    simp only[g6.next]
    rcases Int.lt_or_le 1099511627776 (k+l.length-1) with h1|h1
    ·exact absurd (.inr (.inr h1)) hc
    ·exact h1
theorem Ti{R:List PF}:∀(ids:List Int) (prev:Option Int) (L:List g6) (wh:Bool),lA L->c_ L<=1099511627776->∀{L' Ab},m0 R ids prev L wh=some (L',Ab)->lA L'/\c_ L'<=1099511627776
 | [],prev,L,wh,h,hh,L',Ab,e=>by cases e;exact⟨h,hh⟩
 | f::r,prev,L,wh,h,hh,L',Ab,e=>by
  rw[C7]at e
  obtain⟨k1,k2⟩:=bIn (R:=R) (f:=f) (last:=r.isEmpty) h hh
  split at e
  ·cases e
  ·split at e
   ·cases e
   ·exact Ti r _ _ _ k1 k2 e
def tN:List g6->Int->Option (List UInt8)
 | [],_=>none
 | s::r,n=>if n-s.first<s.l.length then s.l[(n-s.first).toNat]? else tN r n
theorem Rb:∀(L:List g6) (n:Int),lA L->(∀s,L.head?=some s->s.first<=n)->tN L n=lE L n
 | [],n,_,_=>rfl
 | [s],n,_,h=>by
  have h0:=h s rfl
  have rW:s.next=s.first+s.l.length:=rfl
  by_cases h1:n-s.first<s.l.length
  ·rw[tN,lE,if_pos h1,if_pos (c:=s.first<=n/\n<s.next) ⟨h0,by omega⟩]
  ·rw[tN,lE,if_neg h1,if_neg (c:=s.first<=n/\n<s.next) (by omega)];rfl
 | s::t::r,n,hs,h=>by
  have h0:=h s rfl
  have rW:s.next=s.first+s.l.length:=rfl
  have h1:=hs.1
  by_cases h2:n-s.first<s.l.length
  ·rw[tN,lE,if_pos h2,if_pos (c:=s.first<=n/\n<s.next) ⟨h0,by omega⟩]
  ·rw[tN,lE,if_neg h2,if_neg (c:=s.first<=n/\n<s.next) (by omega)]
   exact Rb (t::r) n hs.2 λx hx=>by cases hx;omega
theorem Um:∀(L:List g6) (n:Int),lA L->(∀s∈L,0<=(s.l.length:Int))->n<jT L->lE L n=none
 | [],n,_,_,_=>rfl
 | [s],n,_,_,h=>by
  have h:n<s.first:=h
  rw[lE,if_neg (by omega)];rfl
 | s::t::r,n,hs,hp,h=>by
  have h:n<s.first:=h
  have h1:=hs.1
  simp only[g6.next]at h1
  rw[lE,if_neg (by omega)]
  exact Um (t::r) n hs.2 (λx hx=>by omega) (by show n<t.first;omega)
theorem Uk:∀(L:List g6) (n:Int),lA L->c_ L<n->lE L n=none
 | [],n,_,_=>rfl
 | [s],n,_,h=>by
  have h:s.next-1<n:=h
  rw[lE,if_neg (by omega)];rfl
 | s::t::r,n,hs,h=>by
  have hh:c_ (s::t::r)=c_ (t::r):=by simp only[c_,List.getLast?_cons_cons]
  rw[hh]at h
  have hle:∀(L:List g6) (x:g6),lA (x::L)->x.next-1<=c_ (x::L):=by
   intro L
   induction L with
   | nil=>intro x _;exact Int.le_refl _
   | cons y L ih=>
    intro x hx
    have:=ih y hx.2
    have h1:=hx.1
    have h2:c_ (x::y::L)=c_ (y::L):=by simp only[c_,List.getLast?_cons_cons]
    rw[h2]
    simp only[g6.next]at *
    omega
  have h1:=hle r t hs.2
  have h2:=hs.1
  have h3:s.next<=n:=by simp only[g6.next]at *;omega
  rw[lE,if_neg (by omega)]
  exact Uk (t::r) n hs.2 h
theorem bI8(bW:List g6)(base size:Int)(x:w8)(d:DS):ik ⟨bW,base,size,some x⟩ d =
  ((⟨bW,base,size,if (if x.fresh=true then d.remove x.file else d.cut x.file x.oS).2=0 then none else some x⟩,(if x.fresh=true then d.remove x.file else d.cut x.file x.oS).1),(if x.fresh=true then d.remove x.file else d.cut x.file x.oS).2):=rfl
theorem QC(lp dp:Nat)(g:iq)(d:DS)(N:Nat)(cR:d.Ok N)(hN:N<=140737488355328)(iP:d.ops<=100000):
  SP 287 [.pointer (some ⟨lp,0,none⟩)] [.ob (iM lp dp g),.ob (dI dp d)] (eW (.int .i64 (ik g d).2) [.ob (iM lp dp (ik g d).1.1),.ob (dI dp (ik g d).1.2)]):=by
 intro W F w hS;apply dFs;delta MX aF bF fR ai gw;(try simp only[app]at hS)
 obtain⟨sv,tv,xs,hx,hS⟩:=iM.iff.1 hS
 obtain⟨bW,base,size,iw⟩:=g
 simp only at hx hS
 cases iw with
 | none=>
  rw[show ik ⟨bW,base,size,none⟩ d=((⟨bW,base,size,none⟩,d),0) from rfl]
  obtain⟨rfl,hS⟩:=BI.1 (SL.b_ hS (t:=.ob (ku tv none)::.pt lp (j8 sv tv dp base size) 148::j1 sv xs::.ob (zi ia xs)::.ob (dI dp d)::F) Xi)
  refine Gp ?_
  refine zw ?_
  have hS:=(BI (v:=.pointer none)).2 ⟨rfl,hS⟩
  exact⟨_,⟨rfl,rfl⟩,iM.iff.2 ⟨sv,.pointer none,xs,hx,aR hS⟩⟩
 | some x=>
  obtain⟨tb,rfl,hS⟩:=F0.1 (SL.b_ hS (t:=.ob (ku tv (some x))::.pt lp (j8 sv tv dp base size) 148::j1 sv xs::.ob (zi ia xs)::.ob (dI dp d)::F) Xi)
  rw[bI8]
  refine Gp ?_
  refine zt ?_
  refine Gp ?_
  refine yO (λhf=>?_) (λhf=>?_)
  ·simp only[if_pos hf]
   refine Gn λw hS=>?_
   refine Cg (Zr dp d N cR iP x.file) λw hS=>?_
   refine za (λh=>?_) (λh=>?_)
   ·rw[if_pos h]
    refine Gn λw hS=>?_
    have hS:=(BI (v:=.pointer none)).2 ⟨rfl,hS⟩
    exact⟨_,⟨rfl,rfl⟩,iM.iff.2 ⟨sv,.pointer none,xs,hx,aR hS⟩⟩
   ·rw[if_neg h]
    have hS:=(F0 (v:=.pointer (some ⟨tb,0,none⟩)) (x:=x)).2 ⟨tb,rfl,SL.b_ hS (t:=.pt tb [.int .i64 x.file,.int .i64 x.oS,.bool x.fresh] 408::.pt lp (j8 sv (.pointer (some ⟨tb,0,none⟩)) dp base size) 148::j1 sv xs::.ob (zi ia xs)::.ob (dI dp (d.remove x.file).1)::F) Xi⟩
    exact⟨_,⟨rfl,rfl⟩,iM.iff.2 ⟨sv,_,xs,hx,aR hS⟩⟩
  ·have hf:¬x.fresh=true:=by rw[hf];decide
   simp only[if_neg hf]
   refine Gn λw hS=>?_
   refine Cg (YB dp d N cR hN iP x.file x.oS) λw hS=>?_
   refine za (λh=>?_) (λh=>?_)
   ·rw[if_pos h]
    refine Gn λw hS=>?_
    have hS:=(BI (v:=.pointer none)).2 ⟨rfl,hS⟩
    exact⟨_,⟨rfl,rfl⟩,iM.iff.2 ⟨sv,.pointer none,xs,hx,aR hS⟩⟩
   ·rw[if_neg h]
    have hS:=(F0 (v:=.pointer (some ⟨tb,0,none⟩)) (x:=x)).2 ⟨tb,rfl,SL.b_ hS (t:=.pt tb [.int .i64 x.file,.int .i64 x.oS,.bool x.fresh] 408::.pt lp (j8 sv (.pointer (some ⟨tb,0,none⟩)) dp base size) 148::j1 sv xs::.ob (zi ia xs)::.ob (dI dp (d.cut x.file x.oS).1)::F) Xi⟩
    exact⟨_,⟨rfl,rfl⟩,iM.iff.2 ⟨sv,_,xs,hx,aR hS⟩⟩
def VG(lp dp:Nat)(g:iq)(d:DS)(X:Chunk)(p:List UInt8)(y:Except Int lY)(r:Value)(post:List Chunk):Prop:=match y with
 | .error e=>(∃z,r= .tuple #[.agg #[.int .i64 0,.bool false,.slice none 0 0],.int .i64 z]/\z=e/\z≠0)/\post=[.ob (iM lp dp g),.ob (dI dp d),X]
 | .ok x=>∃a c,r= .tuple #[.agg #[.int .i64 x.file,.bool x.fresh,.slice a x.b.length c],.int .i64 0]/\post=[.ob (bI (.slice a x.b.length c) 5 1 x.b.length (x.b.map fI)),.ob (iM lp dp g),.ob (dI dp d),X]
theorem iq.Ok.xs{g:iq}{N:Nat}(h:g.Ok N){xs:List f_}(hx:xs.map f_.pl=g.bW):(∀s∈xs.map f_.pl,m_ s N)/\xs.length<=N/\0<=c_ g.bW/\c_ g.bW<=1099511627776+N:=by
 refine⟨by rw[hx];exact h.bW,?_,uP h.bW⟩
 have:=h.ln
 rw[<- hx,List.length_map]at this;exact this
theorem QH(X:Chunk)(lp dp:Nat)(g:iq)(d:DS)(v:Value)(p:List UInt8)(hv:ix X v p)(hp:p.length<=140737488355328){M:Nat}(hg:g.Ok M)(hM:M<=1000000000000000):
  SP 286 [.pointer (some ⟨lp,0,none⟩),v] [.ob (iM lp dp g),.ob (dI dp d),X] (VG lp dp g d X p (kd g d.off p)):=by
 intro W F w hS;apply dFr;delta MW aF bF a_ d_ ai bR;(try simp only[app]at hS)
 obtain⟨sv,tv,xs,hx,hS⟩:=iM.iff.1 hS
 obtain⟨cR,hl,R5,AS⟩:=hg.xs hx
 have RN:=hg.b0
 have wC:=hg.b1
 have tZ:=hg.s1
 have hs0:=hg.s0
 have ra:c_ (xs.map f_.pl)=c_ g.bW:=by rw[hx]
 refine Gm λb w hS=>?_
 refine Cc (qJ X v p hv hp) ?_;clear hS
 rintro r post hQ w hS
 unfold sj at hQ
 by_cases rR:1048576<p.length
 ·rw[if_pos rR]at hQ
  obtain⟨rfl,rfl⟩:=hQ
  have j7:kd g d.off p= .error 1:=by unfold kd;rw[if_pos rR]
  rw[j7]
  (try simp only[app]at hS);refine Gp ?_
  refine za (λ_=>?_) (λh=>absurd (by decide) h)
  refine Gn λw hS=>?_
  exact⟨_,⟨⟨1,rfl,rfl,by decide⟩,rfl⟩,SL.b_ (iM.iff.2 ⟨sv,tv,xs,hx,SL.b_ hS (t:=.pt lp (j8 sv tv dp g.base g.size) 148::j1 sv xs::.ob (zi ia xs)::.ob (ku tv g.iw)::.ob (dI dp d)::X::F) Xi⟩) Xi⟩
 ·rw[if_neg rR]at hQ
  obtain⟨u,rfl,rfl⟩:=hQ
  try simp only[app]at hS
  have hu:=hS.oF .hd
  obtain⟨au,cu,eu,_⟩:=bI.at hS .hd
  subst eu
  refine Gp ?_
  refine za (λh=>absurd rfl h) (λ_=>?_)
  refine Gp ?_
  refine Cg (yT dp d) λw hS=>?_
  have lS:∀{w:World} {l:List Chunk},SL W (.pt lp (j8 sv tv dp g.base g.size) 148::j1 sv xs::.ob (zi ia xs)::.ob (ku tv g.iw)::l) w->SL W (.ob (iM lp dp g)::l) w:=λh=>iM.iff.2 ⟨sv,tv,xs,hx,h⟩
  refine yO (λho=>?_) (λho=>?_)
  ·have j7:kd g d.off p= .error 8:=by unfold kd;rw[if_neg rR,if_pos ho]
   rw[j7]
   refine Gn λw hS=>?_
   exact⟨_,⟨⟨8,rfl,rfl,by decide⟩,rfl⟩,SL.b_ (lS (SL.b_ hS (t:=.pt lp (j8 sv tv dp g.base g.size) 148::j1 sv xs::.ob (zi ia xs)::.ob (ku tv g.iw)::.ob (dI dp d)::X::F) Xi)) Xi⟩
  ·refine Gp ?_
   refine Cg (yq lp (j8 sv tv dp g.base g.size) 148 sv xs rfl cR hM (by omega)) λw hS=>?_
   rw[ra]
   refine za (λh1=>?_) (λh1=>?_)
   ·have j7:kd g d.off p= .error 7:=by unfold kd;rw[if_neg rR,if_neg (by rw[ho];decide),if_pos h1]
    rw[j7]
    refine Gn λw hS=>?_
    exact⟨_,⟨⟨7,rfl,rfl,by decide⟩,rfl⟩,SL.b_ (lS (SL.b_ hS (t:=.pt lp (j8 sv tv dp g.base g.size) 148::j1 sv xs::.ob (zi ia xs)::.ob (ku tv g.iw)::.ob (dI dp d)::X::F) Xi)) Xi⟩
   ·refine Gp ?_
    refine⟨λvs w=>∃f:Int,vs=[.int .i64 f]/\kd g d.off p=ny g f p/\-1000000<=f/\f<=1000000/\SL W (.pt b [.int .i64 0,.bool false,.slice none 0 0] 318::.pt lp (j8 sv tv dp g.base g.size) 148::j1 sv xs::.ob (zi ia xs)::.ob (ku tv g.iw)::.ob (dI dp d)::.ob (bI (.slice au (ic p).length cu) 5 1 (ic p).length ((ic p).map fI))::X::F) w,?_,?_⟩
    ·refine Gp ?_
     refine zY hS Xh ?_
     refine b9 (λh2=>?_) (λh2=>?_)
     ·refine Gp ?_
      have e:((xs.length:Nat):Int)-1=((xs.length-1:Nat):Int):=by omega
      rw[e]
      have hj:xs.length-1<xs.length:=by omega
      refine qg hS Xh hj ?_
      have hm:(xs[xs.length-1]'hj).pl∈xs.map f_.pl:=List.mem_map.2 ⟨_,List.getElem_mem hj,rfl⟩
      have rU:g.bW.getLast?=some (xs[xs.length-1]'hj).pl:=by
       rw[<- hx,List.getLast?_map,List.getLast?_eq_getElem?,List.getElem?_eq_getElem hj];rfl
      have vH:=cR _ hm
      generalize xs[xs.length-1]'hj=x at *
      have rX:kd g d.off p=if x.pl.l.length=0\/(x.pl.size:Int)+(ic p).length<=g.size then .ok ⟨x.pl.file,false,ic p⟩ else ny g (x.pl.file+1) p:=by
       unfold kd;rw[if_neg rR,if_neg (by rw[ho];decide),if_neg (by omega),rU]
      have pC:x.pl.l.length=x.es.length:=by simp[f_.pl,tG]
      have SH:x.pl.size=x.size:=rfl
      have ET:x.pl.file=x.file:=rfl
      have k1:=vH.f0
      have k2:=vH.f1
      have k3:=vH.sz
      rw[pC,SH,ET]at rX
      rw[ET]at k1 k2
      rw[SH]at k3
      have wJ:=o7 p
      unfold jw f_.lv
      refine Gm λb w hS=>?_
      refine za (λh3=>?_) (λh3=>?_)
      ·rw[if_pos (.inl (by omega))]at rX
       rw[rX]
       refine Gn λw hS=>?_
       exact⟨_,⟨au,cu,rfl,rfl⟩,SL.b_ (lS (SL.b_ hS (t:=.pt lp (j8 sv tv dp g.base g.size) 148::j1 sv xs::.ob (zi ia xs)::.ob (ku tv g.iw)::.ob (bI (.slice au (ic p).length cu) 5 1 (ic p).length ((ic p).map fI))::.ob (dI dp d)::X::F) Xi)) Xi⟩
      ·refine b9 (λh4=>?_) (λh4=>?_)
       ·rw[if_pos (.inr (by omega))]at rX
        rw[rX]
        refine Gn λw hS=>?_
        exact⟨_,⟨au,cu,rfl,rfl⟩,SL.b_ (lS (SL.b_ hS (t:=.pt lp (j8 sv tv dp g.base g.size) 148::j1 sv xs::.ob (zi ia xs)::.ob (ku tv g.iw)::.ob (bI (.slice au (ic p).length cu) 5 1 (ic p).length ((ic p).map fI))::.ob (dI dp d)::X::F) Xi)) Xi⟩
       ·rw[if_neg (by omega)]at rX
        refine Gp ?_
        exact⟨x.file+1,rfl,rX,by omega,by omega,aR hS⟩
     ·have rX:kd g d.off p=ny g g.base p:=by
       have CG:g.bW=[]:=by
        rw[<- hx]
        have:xs=[]:=List.eq_nil_of_length_eq_zero (by omega)
        rw[this];rfl
       unfold kd;rw[if_neg rR,if_neg (by rw[ho];decide),if_neg (by omega),CG];rfl
      exact⟨g.base,rfl,rX,by omega,by omega,aR hS⟩
    ·clear hS
     rintro v8 w ⟨f,jR,rX,f0,f1,hS⟩
     cases jR
     rw[rX]
     unfold ny
     refine b9 (λh2=>?_) (λh2=>?_)
     ·rw[if_pos h2]
      refine Gn λw hS=>?_
      exact⟨_,⟨⟨7,rfl,rfl,by decide⟩,rfl⟩,SL.b_ (lS (SL.b_ hS (t:=.pt lp (j8 sv tv dp g.base g.size) 148::j1 sv xs::.ob (zi ia xs)::.ob (ku tv g.iw)::.ob (dI dp d)::X::F) Xi)) Xi⟩
     ·rw[if_neg h2]
      refine Gp ?_
      refine Cg (yq lp (j8 sv tv dp g.base g.size) 148 sv xs rfl cR hM (by omega)) λw hS=>?_
      rw[ra]
      refine Cc (ql (c_ g.bW+1)) ?_;clear hS
      rintro r post hQ w hS
      unfold Aj at hQ
      rw[if_neg (by omega)]at hQ
      obtain⟨y,rfl,rfl⟩:=hQ
      try simp only[app]at hS
      have hy:=hS.oF .hd
      obtain⟨ay,cy,ey,_⟩:=bI.at hS .hd
      subst ey
      refine Gm λb w hS=>?_
      refine yQ (F:=_) (ZJ _ 2 _ [_,_] [ic (j6 (c_ g.bW+1).toNat),ic p] [.ob (bI (.slice ay (ic (j6 (c_ g.bW+1).toNat)).length cy) 5 1 (ic (j6 (c_ g.bW+1).toNat)).length ((ic (j6 (c_ g.bW+1).toNat)).map fI)),.ob (bI (.slice au (ic p).length cu) 5 1 (ic p).length ((ic p).map fI))] rfl rfl ?_ ?_ (by omega)) hS Xp ?_
      ·intro i hi
       match i,hi with
       | 0,_=>exact⟨_,.hd,ix.own⟩
       | 1,_=>exact⟨_,.tl .hd,ix.own⟩
      ·have:=o7 p
       have:=o7 (j6 (c_ g.bW+1).toNat)
       have:=vy (c_ g.bW+1).toNat
       simp;omega
      ·clear hS
       rintro c post rfl w hS;(try simp only[app]at hS)
       have e2:[ic (j6 (c_ g.bW+1).toNat),ic p].flatten=ic (j6 (c_ g.bW+1).toNat)++ic p:=by simp
       rw[e2]at hS
       have hc:=hS.oF .hd
       obtain⟨ac,cc,ec,_⟩:=bI.at hS .hd
       subst ec
       refine Gn λw hS=>?_
       have e3:(ic (j6 (c_ g.bW+1).toNat)).length+(ic p).length=(ic (j6 (c_ g.bW+1).toNat)++ic p).length:=by rw[List.length_append]
       rw[e3]
       exact⟨_,⟨ac,cc,rfl,rfl⟩,SL.b_ (lS (SL.b_ hS (t:=.pt lp (j8 sv tv dp g.base g.size) 148::j1 sv xs::.ob (zi ia xs)::.ob (ku tv g.iw)::.ob (bI (.slice ac (ic (j6 (c_ g.bW+1).toNat)++ic p).length cc) 5 1 (ic (j6 (c_ g.bW+1).toNat)++ic p).length ((ic (j6 (c_ g.bW+1).toNat)++ic p).map fI))::.ob (dI dp d)::X::F) Xi)) Xi⟩
def VK(lp dp:Nat)(g:iq)(d:DS)(X:Chunk)(y:Except Int lY)(r:Value)(post:List Chunk):Prop:=match y with
 | .error e=>e≠0/\r= .tuple #[.agg #[.int .i64 0,.bool false,.slice none 0 0],.int .i64 e]/\post=[.ob (iM lp dp g),.ob (dI dp d),X]
 | .ok x=>∃a c,r= .tuple #[.agg #[.int .i64 x.file,.bool x.fresh,.slice a x.b.length c],.int .i64 (ik g d).2]/\post=[.ob (bI (.slice a x.b.length c) 5 1 x.b.length (x.b.map fI)),.ob (iM lp dp (ik g d).1.1),.ob (dI dp (ik g d).1.2),X]
theorem qO(X:Chunk)(lp dp:Nat)(g:iq)(d:DS)(v:Value)(p:List UInt8)(hv:ix X v p)(hp:p.length<=140737488355328){M N:Nat}(hg:g.Ok M)(hM:M<=1000000000000000)(cR:d.Ok N)(hN:N<=140737488355328)(iP:d.ops<=100000):
  SP 229 [.pointer (some ⟨lp,0,none⟩),v] [.ob (iM lp dp g),.ob (dI dp d),X] (VK lp dp g d X (kd g d.off p)):=by
 intro W F w hS;apply c_8;delta LZ aF ai bR;(try simp only[app]at hS)
 refine Gm λb w hS=>?_
 refine Cc (QH X lp dp g d v p hv hp hg hM) ?_;clear hS
 rintro r post hQ w hS
 cases j7:kd g d.off p with
 | error e=>
  rw[j7]at hQ
  obtain⟨⟨z,rfl,rfl,hz⟩,rfl⟩:=hQ
  refine Gm λb w hS=>?_
  refine za (λh=>absurd h hz) (λ_=>?_)
  refine Gn λw hS=>?_
  exact⟨_,⟨hz,rfl,rfl⟩,aR hS⟩
 | ok x=>
  rw[j7]at hQ
  obtain⟨a,c,rfl,rfl⟩:=hQ
  refine Gm λb w hS=>?_
  refine za (λ_=>?_) (λh=>absurd rfl h)
  refine Cg (QC lp dp g d N cR hN iP) λw hS=>?_
  exact⟨_,⟨a,c,rfl,rfl⟩,aR hS⟩
theorem j1.at{W w:World}{l:List Chunk}{v:Value}{t:TypeId}{xs:List f_}{j:Nat}(h:SL W (.ob (g8 v t 4 xs.length (xs.map jw).flatten)::l) w)(hj:j<xs.length):
  ∃b o cap A B,v= .slice (some ⟨b,o,none⟩) xs.length cap/\A.length=o+j*4/\SL W (.pt b (A++(jw xs[j]++B)) t::l) w /\
   ∀y w' l',SL W (.pt b (A++(jw y++B)) t::l') w'->SL W (.ob (g8 v t 4 (xs.set j y).length ((xs.set j y).map jw).flatten)::l') w':=by
 obtain⟨b,pre,cap,rest,rfl,hc,hl,hr,hS⟩:=g8.block h (by omega)
 have e:(xs.map jw).flatten=((xs.take j).map jw).flatten++(jw xs[j]++((xs.drop (j+1)).map jw).flatten):=by
  have t_:xs=xs.take j++xs[j]::xs.drop (j+1):=by rw[<- List.drop_eq_getElem_cons hj,List.take_append_drop]
  have e:=congrArg (λl=>(List.map jw l).flatten) t_
  simp only[List.map_append,List.map_cons,List.flatten_append,List.flatten_cons]at e
  exact e
 have el:((xs.take j).map jw).flatten.length=j*4:=by rw[Rf,List.length_take];omega
 refine⟨b,pre.length,cap,pre++((xs.take j).map jw).flatten,((xs.drop (j+1)).map jw).flatten++rest,rfl,by rw[List.length_append,el],?_,λy w' l' h'=>?_⟩
 ·rw[e]at hS
  simp only[List.append_assoc]at hS ⊢
  exact hS
 ·have e2:((xs.set j y).map jw).flatten=((xs.take j).map jw).flatten++(jw y++((xs.drop (j+1)).map jw).flatten):=by
   rw[List.set_eq_take_append_cons_drop,if_pos hj]
   simp only[List.map_append,List.map_cons,List.flatten_append,List.flatten_cons]
  have:=g8.mk (b:=b) (t:=t) (sz:=4) (n:=xs.length) (cells:=((xs.set j y).map jw).flatten) (pre:=pre) (rest:=rest) (cap:=cap) hc (by rw[Rf,List.length_set]) hr rfl (by rw[e2];simp only[List.append_assoc]at h' ⊢;exact h')
  show SL W (.ob (g8 _ t 4 (xs.set j y).length _)::l') w'
  rw[List.length_set]
  exact this
theorem sN{A B:List Value}{cs:List Value}{i:Nat}{u:Value}(h:cs[i]?=some u):(A++(cs++B))[A.length+i]?=some u:=by
 rw[List.getElem?_append_right (by omega),Nat.add_sub_cancel_left,List.getElem?_append_left (List.getElem?_eq_some_iff.1 h).1];exact h
theorem Fp{A B:List Value}{cs:List Value}{i:Nat}{u:Value}(h:i<cs.length):(A++(cs++B)).set (A.length+i) u=A++(cs.set i u++B):=by
 rw[List.set_append_right _ _ (by omega),Nat.add_sub_cancel_left,List.set_append_left _ _ h]
theorem DK{g:iq}{d:DS}{p:List UInt8}{e:Int}(h:kd g d.off p= .error e):kn g d p=((g,d),(0,e)):=by
 unfold kn;rw[h]
theorem OZ{g:iq}{d:DS}{p:List UInt8}{x:lY}(h:kd g d.off p= .ok x)(hm:(ik g d).2≠0):kn g d p=((ik g d).1,(0,(ik g d).2)):=by
 unfold kn;rw[h];simp only;rw[if_pos hm]
theorem OX{g:iq}{d:DS}{p:List UInt8}{x:lY}(h:kd g d.off p= .ok x)(hm:(ik g d).2=0)(ha:((ik g d).1.2.append x.file x.b).2≠0):
  kn g d p=(((ik g d).1.1,((ik g d).1.2.append x.file x.b).1),(0,((ik g d).1.2.append x.file x.b).2)):=by
 unfold kn;rw[h];simp only;rw[if_neg (by simp[hm]),if_pos ha]
theorem O0{g:iq}{d:DS}{p:List UInt8}{x:lY}(h:kd g d.off p= .ok x)(hm:(ik g d).2=0)(ha:((ik g d).1.2.append x.file x.b).2=0)(hs:(((ik g d).1.2.append x.file x.b).1.sync x.file).2≠0):
  kn g d p=(((ik g d).1.1,(((ik g d).1.2.append x.file x.b).1.sync x.file).1),(0,(((ik g d).1.2.append x.file x.b).1.sync x.file).2)):=by
 unfold kn;rw[h];simp only;rw[if_neg (by simp[hm]),if_neg (by simp[ha]),if_pos hs]
theorem OY{g:iq}{d:DS}{p:List UInt8}{x:lY}(h:kd g d.off p= .ok x)(hm:(ik g d).2=0)(ha:((ik g d).1.2.append x.file x.b).2=0)(hs:(((ik g d).1.2.append x.file x.b).1.sync x.file).2=0):
  kn g d p=(({(ik g d).1.1 with bW:=l5 g.bW x p},(((ik g d).1.2.append x.file x.b).1.sync x.file).1),(c_ (l5 g.bW x p),0)):=by
 unfold kn;rw[h];simp only;rw[if_neg (by simp[hm]),if_neg (by simp[ha]),if_neg (by simp[hs]),(wP g d).1]
theorem T5(s:DS)(f:Int)(b:List UInt8):(s.append f b).1.ops<=s.ops+1:=by
 unfold DS.append;split<;>simp[DS.g7]
theorem bWo(s:DS)(f n:Int):(s.cut f n).1.ops<=s.ops+1:=by
 unfold DS.cut;split
 ·simp
 ·split
  ·simp
  ·split<;>simp[DS.g7]
theorem bWp(s:DS)(f:Int):(s.remove f).1.ops<=s.ops+1:=by
 unfold DS.remove;split
 ·simp
 ·split<;>simp[DS.g7]
theorem T6(g:iq)(d:DS):(ik g d).1.2.ops<=d.ops+1:=by
 unfold ik;split
 ·simp
 ·simp only
  split
  ·exact bWp _ _
  ·exact bWo _ _ _
theorem YX(X:Chunk)(lp dp:Nat)(g:iq)(d:DS)(v:Value)(p:List UInt8)(hv:ix X v p)(hp:p.length<=140737488355328){M N:Nat}(hg:g.Ok M)(hM:M<=1000000000000)(cR:d.Ok N)(hN:N<=140737480000000)(iP:d.ops<=90000):
  SP 147 [.pointer (some ⟨lp,0,none⟩),v] [.ob (iM lp dp g),.ob (dI dp d),X] (eW (.tuple #[.int .i64 (kn g d p).2.1,.int .i64 (kn g d p).2.2]) [.ob (iM lp dp (kn g d p).1.1),.ob (dI dp (kn g d p).1.2),X]):=by
 intro W F w hS;apply cRz;delta KH aF bF a_ fR aW d_ ai bR;(try simp only[app]at hS)
 obtain⟨va,vc,rfl,SC⟩:=hv.sl hS Xh
 refine Cc (qO X lp dp g d _ p hv hp hg (by omega) cR (by omega) (by omega)) ?_;clear hS
 rintro r post hQ w hS
 cases j7:kd g d.off p with
 | error e=>
  rw[j7]at hQ
  obtain⟨hz,rfl,rfl⟩:=hQ
  rw[DK j7]
  refine Gm λb w hS=>?_
  refine⟨λvs w=>vs=[.int .i64 e]/\SL W (.ob (iM lp dp g)::.ob (dI dp d)::X::F) w,?_,?_⟩
  ·refine Gp ?_
   refine za (λh=>absurd h hz) (λ_=>⟨rfl,aR hS⟩)
  ·clear hS
   rintro v7 w ⟨jR,hS⟩
   cases jR
   refine⟨λvs w=>vs=[.int .i64 e]/\SL W (.ob (iM lp dp g)::.ob (dI dp d)::X::F) w,?_,?_⟩
   ·refine Gp ?_
    refine za (λh=>absurd h hz) (λ_=>⟨rfl,hS⟩)
   ·clear hS
    rintro v7 w ⟨jR,hS⟩
    cases jR
    refine Gp ?_
    refine za (λ_=>?_) (λh=>absurd hz h)
    (exact fw hS)
 | ok x=>
  rw[j7]at hQ
  obtain⟨a,c,rfl,rfl⟩:=hQ
  have hw:=IQ hg j7
  have xR:=Iy (g:=g) cR
  have AX:=Ix (d:=d) hg
  have xS:=wP g d
  have tV:=T6 g d
  have vx:=hw.bl
  have hpp:=hw.pl
  refine Gm λb w hS=>?_
  obtain⟨wb,rfl⟩:∃k,k=b:=⟨b,rfl⟩
  by_cases hm:(ik g d).2=0
  ·
   have RJ:=xR.append x.file x.b
   have hao:=T5 (ik g d).1.2 x.file x.b
   have eFs:=RJ.sync x.file
   have wH:=OY j7 hm
   have RG:=OX j7 hm
   have EP:=O0 j7 hm
   generalize kn g d p=G at *
   generalize ik g d=m at *
   obtain⟨⟨g1,d1⟩,me⟩:=m
   simp only at *
   subst hm
   refine⟨λvs w=>vs=[.int .i64 (d1.append x.file x.b).2]/\SL W (.pt wb [.int .i64 x.file,.bool x.fresh,.slice a x.b.length c] 318::.ob (bI (.slice a x.b.length c) 5 1 x.b.length (x.b.map fI))::.ob (iM lp dp g1)::.ob (dI dp (d1.append x.file x.b).1)::X::F) w,?_,?_⟩
   ·refine Gp ?_
    refine za (λ_=>?_) (λh=>absurd rfl h)
    obtain⟨sv,tv,xs,hx,hS⟩:=iM.iff.1 (SL.b_ hS (t:=.ob (iM lp dp g1)::.pt wb [.int .i64 x.file,.bool x.fresh,.slice a x.b.length c] 318::.ob (bI (.slice a x.b.length c) 5 1 x.b.length (x.b.map fI))::.ob (dI dp d1)::X::F) Xi)
    refine Gn λw hS=>?_
    refine Cg (Wf (.ob (bI (.slice a x.b.length c) 5 1 x.b.length (x.b.map fI))) dp d1 N xR (by omega) x.file _ x.b (λhS h=>rz hS h) (by omega)) λw hS=>?_
    have hS:=iM.iff.2 ⟨sv,tv,xs,hx,SL.b_ hS (t:=.pt lp (j8 sv tv dp g1.base g1.size) 148::j1 sv xs::.ob (zi ia xs)::.ob (ku tv g1.iw)::.pt wb [.int .i64 x.file,.bool x.fresh,.slice a x.b.length c] 318::.ob (bI (.slice a x.b.length c) 5 1 x.b.length (x.b.map fI))::.ob (dI dp (d1.append x.file x.b).1)::X::F) Xi⟩
    exact aR hS
   ·clear hS
    rintro v7 w ⟨jR,hS⟩
    cases jR
    by_cases ha:(d1.append x.file x.b).2=0
    ·rw[ha]
     refine⟨λvs w=>vs=[.int .i64 ((d1.append x.file x.b).1.sync x.file).2]/\SL W (.pt wb [.int .i64 x.file,.bool x.fresh,.slice a x.b.length c] 318::.ob (bI (.slice a x.b.length c) 5 1 x.b.length (x.b.map fI))::.ob (iM lp dp g1)::.ob (dI dp ((d1.append x.file x.b).1.sync x.file).1)::X::F) w,?_,?_⟩
     ·refine Gp ?_
      refine za (λ_=>?_) (λh=>absurd rfl h)
      obtain⟨sv,tv,xs,hx,hS⟩:=iM.iff.1 (SL.b_ hS (t:=.ob (iM lp dp g1)::.pt wb [.int .i64 x.file,.bool x.fresh,.slice a x.b.length c] 318::.ob (bI (.slice a x.b.length c) 5 1 x.b.length (x.b.map fI))::.ob (dI dp (d1.append x.file x.b).1)::X::F) Xi)
      refine Gn λw hS=>?_
      refine Cg (cFj dp (d1.append x.file x.b).1 _ RJ (by omega) x.file) λw hS=>?_
      have hS:=iM.iff.2 ⟨sv,tv,xs,hx,SL.b_ hS (t:=.pt lp (j8 sv tv dp g1.base g1.size) 148::j1 sv xs::.ob (zi ia xs)::.ob (ku tv g1.iw)::.pt wb [.int .i64 x.file,.bool x.fresh,.slice a x.b.length c] 318::.ob (bI (.slice a x.b.length c) 5 1 x.b.length (x.b.map fI))::.ob (dI dp ((d1.append x.file x.b).1.sync x.file).1)::X::F) Xi⟩
      exact aR hS
     ·clear hS
      rintro v7 w ⟨jR,hS⟩
      cases jR
      by_cases hs:((d1.append x.file x.b).1.sync x.file).2=0
      ·rw[hs]
       have hG:=wH ha hs
       subst hG
       clear wH RG EP hao
       generalize ((d1.append x.file x.b).1.sync x.file).1=d3 at *
       refine Gp ?_
       refine za (λh=>absurd rfl h) (λ_=>?_)
       obtain⟨sv,tv,xs,hx,hS⟩:=iM.iff.1 (SL.b_ hS (t:=.ob (iM lp dp g1)::.pt wb [.int .i64 x.file,.bool x.fresh,.slice a x.b.length c] 318::.ob (dI dp d3)::X::F) Xi)
       obtain⟨rZ,pC,_,_⟩:=AX.xs hx
       have ra:c_ (xs.map f_.pl)=c_ g.bW:=by rw[hx,xS.1]
       have hgd:=hw.hd
       have wG:=uP hg.bW
       have HC:=IB hg hw
       refine⟨λvs w=>vs=[]/\∃kR gR,gR.map f_.pl=tm g.bW x/\gR.length<=xs.length+1/\SL W (.pt lp (j8 kR tv dp g1.base g1.size) 148::j1 kR gR::.ob (zi ia gR)::.ob (ku tv g1.iw)::.pt wb [.int .i64 x.file,.bool x.fresh,.slice a x.b.length c] 318::.ob (dI dp d3)::X::F) w,?_,?_⟩
       ·refine Gp ?_
        unfold tm
        refine yO (λhf=>?_) (λhf=>?_)
        ·rw[if_pos hf]
         refine Gn λw hS=>?_
         refine Cg (yq lp (j8 sv tv dp g1.base g1.size) 148 sv xs rfl rZ (by omega) (by omega)) λw hS=>?_;refine Gm λb w hS=>?_
         rw[ra]at hS
         have mn:=g8.one hS (v:=sv) (t:=228) (sz:=4) (n:=xs.length) (cells:=(xs.map jw).flatten) Xh
         refine Zd (m:=1) (cs:=[.int .i64 x.file,.int .i64 (c_ g.bW+1),.int .i64 0,.slice none 0 0]) hS Xr (lX hS .hd rfl) rfl rfl (by simp[Value.oneCell']) (by omega) (by omega) ?_
         clear hS;intro kR w hS
         have mn:=g8.one hS (v:=kR) .hd
         refine Gn λw hS=>?_
         have hS:=g8.sK (a:=none) (t:=62) (sz:=1) hS
         have hS:=zi.nil (A:=jN) (SL.b_ hS (t:=.ob (g8 (.slice none 0 0) 62 1 0 [])::.ob (zi ia xs)::.pt lp (j8 kR tv dp g1.base g1.size) 148::.ob (g8 kR 228 4 (xs.length+1) ((xs.map jw).flatten++[.int .i64 x.file,.int .i64 (c_ g.bW+1),.int .i64 0,.slice none 0 0]))::.ob (ku tv g1.iw)::.pt wb [.int .i64 x.file,.bool x.fresh,.slice a x.b.length c] 318::.ob (dI dp d3)::X::F) Xi)
         have hS:=(ia.iff (x:=⟨x.file,c_ g.bW+1,0,[],none,0⟩)).2 (SL.b_ hS (t:=.ob (g8 (.slice none 0 0) 62 1 0 [])::.ob (zi jN [])::.ob (zi ia xs)::.pt lp (j8 kR tv dp g1.base g1.size) 148::.ob (g8 kR 228 4 (xs.length+1) ((xs.map jw).flatten++[.int .i64 x.file,.int .i64 (c_ g.bW+1),.int .i64 0,.slice none 0 0]))::.ob (ku tv g1.iw)::.pt wb [.int .i64 x.file,.bool x.fresh,.slice a x.b.length c] 318::.ob (dI dp d3)::X::F) Xi)
         have hS:=zi.snoc (SL.b_ hS (t:=.ob (zi ia xs)::.ob (ia ⟨x.file,c_ g.bW+1,0,[],none,0⟩)::.pt lp (j8 kR tv dp g1.base g1.size) 148::.ob (g8 kR 228 4 (xs.length+1) ((xs.map jw).flatten++[.int .i64 x.file,.int .i64 (c_ g.bW+1),.int .i64 0,.slice none 0 0]))::.ob (ku tv g1.iw)::.pt wb [.int .i64 x.file,.bool x.fresh,.slice a x.b.length c] 318::.ob (dI dp d3)::X::F) Xi)
         have e1:xs.length+1=(xs++[(⟨x.file,c_ g.bW+1,0,[],none,0⟩:f_)]).length:=by simp
         have e2:(xs.map jw).flatten++[.int .i64 x.file,.int .i64 (c_ g.bW+1),.int .i64 0,.slice none 0 0]=((xs++[(⟨x.file,c_ g.bW+1,0,[],none,0⟩:f_)]).map jw).flatten:=by simp[jw,f_.lv]
         rw[e1,e2]at hS
         refine⟨kR,xs++[⟨x.file,c_ g.bW+1,0,[],none,0⟩],?_,by simp,aR hS⟩
         rw[List.map_append,hx,xS.1];rfl
        ·rw[if_neg (by rw[hf];decide)]
         exact⟨rfl,sv,xs,by rw[hx,xS.1],by omega,aR hS⟩
       ·clear hS rZ ra
        rintro w ⟨-,kR,gR,mY,uS,hS⟩
        obtain⟨A,s,hA⟩:=Fk hw
        rw[Bh _ _ _ hA]
        have hle:0<gR.length:=by
         have:=congrArg List.length mY
         rw[hA]at this;simp at this;omega
        have hj:gR.length-1<gR.length:=by omega
        have t_:gR=gR.take (gR.length-1)++[gR[gR.length-1]]:=by
         conv=>lhs;rw[<- List.take_append_drop (gR.length-1) gR]
         rw[List.drop_eq_getElem_cons hj,List.drop_eq_nil_of_le (by omega)]
        have AO:A=(gR.take (gR.length-1)).map f_.pl/\s=(gR[gR.length-1]).pl:=by
         rw[t_,List.map_append]at mY
         rw[hA]at mY
         have:=List.append_inj' mY rfl
         exact⟨this.1.symm,by simpa using this.2.symm⟩
        obtain⟨xC,tZ⟩:=AO
        subst xC tZ
        have CS:=HC (gR[gR.length-1]).pl (by rw[hA];simp)
        have z1:=CS.sz
        have z2:=CS.ln
        have hS:=zi.take (t:=gR.length-1) (SL.b_ hS (t:=.ob (zi ia gR)::j1 kR gR::.pt lp (j8 kR tv dp g1.base g1.size) 148::.ob (ku tv g1.iw)::.pt wb [.int .i64 x.file,.bool x.fresh,.slice a x.b.length c] 318::.ob (dI dp d3)::X::F) Xi) (List.getElem?_eq_getElem hj)
        have hS:=ia.iff.1 hS
        obtain⟨rb,ro,rc,AA,BB,rfl,AN,hS,lR⟩:=j1.at (SL.b_ hS (t:=j1 kR gR::.ob (g8 (gR[gR.length-1]).lv 62 1 (gR[gR.length-1]).es.length (jB (gR[gR.length-1]).es))::.ob (zi jN (gR[gR.length-1]).es)::.ob (zi ia (gR.eraseIdx (gR.length-1)))::.pt lp (j8 kR tv dp g1.base g1.size) 148::.ob (ku tv g1.iw)::.pt wb [.int .i64 x.file,.bool x.fresh,.slice a x.b.length c] 318::.ob (dI dp d3)::X::F) Xi) hj
        generalize CY:gR[gR.length-1]=x0 at *
        have z1:x0.size<=M:=z1
        have z2:x0.es.length<=M:=by simpa [f_.pl,tG] using z2
        refine Gn λw hS=>?_
        have e:((gR.length:Nat):Int)-1=((gR.length-1:Nat):Int):=by omega
        rw[e]
        refine zH hj ?_
        rw[<- AN]
        refine Gn λw hS=>?_
        refine ye hS Xh (sN (i:=2) (u:=.int .i64 x0.size) rfl) ?_
        refine Gp ?_
        refine Zn hS Xu (sN (i:=2) (u:=.int .i64 x0.size) rfl) rfl ?_
        clear hS;intro w hS
        rw[Fp (by rw[vY];decide)]at hS
        have e5:(jw x0).set 2 (.int .i64 ((x0.size+x.b.length:Nat):Int))=[.int .i64 x0.file,.int .i64 x0.first,.int .i64 ((x0.size+x.b.length:Nat):Int),x0.lv]:=rfl
        rw[e5]at hS
        refine Gn λw hS=>?_
        refine ye hS Xh (sN (i:=3) (u:=x0.lv) rfl) ?_
        refine Zu (cs:=p.map fI) hS (λw' c kL=>hv.src kL (.tl Xh)) (by simp) (nE _) (by omega) ?_
        clear hS;intro u w hS _
        have hu:=hS.oF .hd
        obtain⟨ua,uc,eu,_⟩:=bI.at hS .hd
        subst eu
        refine ye hS Xh (sN (i:=3) (u:=x0.lv) rfl) ?_
        refine Gm λb w hS=>?_
        refine ye hS Xh (sN (i:=3) (u:=x0.lv) rfl) ?_
        refine Gp ?_
        refine Zd (t:=62) (sz:=1) (n:=x0.es.length) (cells:=jB x0.es) (m:=1) (cs:=[.slice ua p.length uc]) hS Xr (lX hS .hd rfl) rfl rfl (by simp[Value.oneCell']) (by omega) (by omega) ?_
        clear hS;intro v' w hS
        have mn:=g8.one hS (v:=v') .hd
        obtain⟨a',c',ev,_⟩:=g8.at hS (v:=v') .hd
        subst ev
        refine Gp ?_
        refine Zn hS Xu (sN (i:=3) (u:=x0.lv) rfl) mn ?_
        clear hS;intro w hS
        rw[Fp (by show 3<4;decide)]at hS
        have e6:([.int .i64 x0.file,.int .i64 x0.first,.int .i64 ((x0.size+x.b.length:Nat):Int),x0.lv]:List Value).set 3 (.slice a' (x0.es.length+1) c')=jw ⟨x0.file,x0.first,x0.size+x.b.length,x0.es++[(.slice ua p.length uc,p)],a',c'⟩:=by
         simp[jw,f_.lv]
        rw[e6]at hS
        let y:f_:=⟨x0.file,x0.first,x0.size+x.b.length,x0.es++[(.slice ua p.length uc,p)],a',c'⟩
        have mZ:(gR.set (gR.length-1) y).map f_.pl=(gR.take (gR.length-1)).map f_.pl++[tD x0.pl x.b.length p]:=by
         rw[List.set_eq_take_append_cons_drop,if_pos hj,List.drop_eq_nil_of_le (by omega),List.map_append]
         congr 1
         simp[y,f_.pl,tD,nH]
        have CL:=(IS hg hw).1
        rw[Bh _ _ _ hA,<- mZ]at CL
        have hS:=lR y w _ (SL.b_ hS (t:=.pt rb (AA++(jw y++BB)) 228::.ob (g8 (.slice a' (x0.es.length+1) c') 62 1 (x0.es.length+1) (jB x0.es++[.slice ua p.length uc]))::.ob (bI (.slice ua p.length uc) 5 1 p.length (p.map fI))::.ob (zi jN x0.es)::.ob (zi ia (gR.eraseIdx (gR.length-1)))::.pt lp (j8 (.slice (some ⟨rb,ro,none⟩) gR.length rc) tv dp g1.base g1.size) 148::.ob (ku tv g1.iw)::.ob (dI dp d3)::X::F) Xi)
        have hS:=SL.b_ hS (t:=.ob (bI (.slice ua p.length uc) 5 1 p.length (p.map fI))::.ob (zi jN x0.es)::.ob (g8 (.slice a' (x0.es.length+1) c') 62 1 (x0.es.length+1) (jB x0.es++[.slice ua p.length uc]))::.ob (zi ia (gR.eraseIdx (gR.length-1)))::j1 (.slice (some ⟨rb,ro,none⟩) gR.length rc) (gR.set (gR.length-1) y)::.pt lp (j8 (.slice (some ⟨rb,ro,none⟩) gR.length rc) tv dp g1.base g1.size) 148::.ob (ku tv g1.iw)::.ob (dI dp d3)::X::F) Xi
        have hS:SL W (.ob (jN (.slice ua p.length uc,p))::.ob (zi jN x0.es)::.ob (g8 (.slice a' (x0.es.length+1) c') 62 1 (x0.es.length+1) (jB x0.es++[.slice ua p.length uc]))::.ob (zi ia (gR.eraseIdx (gR.length-1)))::j1 (.slice (some ⟨rb,ro,none⟩) gR.length rc) (gR.set (gR.length-1) y)::.pt lp (j8 (.slice (some ⟨rb,ro,none⟩) gR.length rc) tv dp g1.base g1.size) 148::.ob (ku tv g1.iw)::.ob (dI dp d3)::X::F) w:=hS
        have hS:=zi.snoc (hS.perm (.swap _ _ _))
        have e7:x0.es.length+1=y.es.length:=by simp[y]
        have e8:jB x0.es++[.slice ua p.length uc]=jB y.es:=by simp[y,jB]
        rw[e7,e8]at hS
        have hS:=(ia.iff (x:=y)).2 (SL.b_ hS (t:=.ob (g8 (.slice a' y.es.length c') 62 1 y.es.length (jB y.es))::.ob (zi jN (x0.es++[(.slice ua p.length uc,p)]))::.ob (zi ia (gR.eraseIdx (gR.length-1)))::j1 (.slice (some ⟨rb,ro,none⟩) gR.length rc) (gR.set (gR.length-1) y)::.pt lp (j8 (.slice (some ⟨rb,ro,none⟩) gR.length rc) tv dp g1.base g1.size) 148::.ob (ku tv g1.iw)::.ob (dI dp d3)::X::F) Xi)
        have hS:=zi.put hS hj
        refine Gp ?_
        refine Cg (yq lp (j8 (.slice (some ⟨rb,ro,none⟩) gR.length rc) tv dp g1.base g1.size) 148 (.slice (some ⟨rb,ro,none⟩) gR.length rc) (gR.set (gR.length-1) y) rfl CL (by omega) (by rw[List.length_set];omega)) λw hS=>?_
        rw[mZ]
        have hS:=(iM.iff (g:={bW:=(gR.take (gR.length-1)).map f_.pl++[tD x0.pl x.b.length p],base:=g1.base,size:=g1.size,iw:=g1.iw})).2 ⟨_,tv,gR.set (gR.length-1) y,mZ,SL.b_ hS (t:=.pt lp (j8 (.slice (some ⟨rb,ro,none⟩) gR.length rc) tv dp g1.base g1.size) 148::j1 (.slice (some ⟨rb,ro,none⟩) gR.length rc) (gR.set (gR.length-1) y)::.ob (zi ia (gR.set (gR.length-1) y))::.ob (ku tv g1.iw)::.ob (dI dp d3)::X::F) Xi⟩
        exact fw hS
      ·have hG:=EP ha hs
       subst hG
       refine Gp ?_
       refine za (λ_=>?_) (λh=>absurd hs h)
       (exact fw hS)
    ·have hG:=RG ha
     subst hG
     refine⟨λvs w=>vs=[.int .i64 (d1.append x.file x.b).2]/\SL W (.ob (iM lp dp g1)::.ob (dI dp (d1.append x.file x.b).1)::X::F) w,?_,?_⟩
     ·refine Gp ?_
      refine za (λh=>absurd h ha) (λ_=>⟨rfl,aR hS⟩)
     ·clear hS
      rintro v7 w ⟨jR,hS⟩
      cases jR
      refine Gp ?_
      refine za (λ_=>?_) (λh=>absurd ha h)
      (exact fw hS)
  ·rw[OZ j7 hm]
   refine⟨λvs w=>vs=[.int .i64 (ik g d).2]/\SL W (.ob (iM lp dp (ik g d).1.1)::.ob (dI dp (ik g d).1.2)::X::F) w,?_,?_⟩
   ·refine Gp ?_
    refine za (λh=>absurd h hm) (λ_=>⟨rfl,aR hS⟩)
   ·clear hS
    rintro v7 w ⟨jR,hS⟩
    cases jR
    refine⟨λvs w=>vs=[.int .i64 (ik g d).2]/\SL W (.ob (iM lp dp (ik g d).1.1)::.ob (dI dp (ik g d).1.2)::X::F) w,?_,?_⟩
    ·refine Gp ?_
     refine za (λh=>absurd h hm) (λ_=>⟨rfl,hS⟩)
    ·clear hS
     rintro v7 w ⟨jR,hS⟩
     cases jR
     refine Gp ?_
     refine za (λ_=>?_) (λh=>absurd hm h)
     (exact fw hS)
theorem qx(lp dp:Nat)(g:iq)(d:DS){M N:Nat}(RN:0<=g.base)(wC:g.base<=12288)(cR:d.Ok N)(hR:d.R.length<=100000):
  SP 137 [.pointer (some ⟨lp,0,none⟩)] [.ob (iM lp dp g),.ob (dI dp d)] (λv post=>post=[.ob (bI v 3 1 (jW g.base d.R).length ((jW g.base d.R).map (Value.int .i64))),.ob (iM lp dp g),.ob (dI dp d)]):=by
 intro W F w hS;apply cRp;delta Kx aF bF ai bR;(try simp only[app]at hS)
 obtain⟨sv,tv,xs,hx,hS⟩:=iM.iff.1 hS
 refine Gp ?_
 refine Cc (qw dp d N cR hR) ?_;clear hS
 rintro fl post rfl w hS
 try simp only[app]at hS
 refine zx hS (t:=3) (sz:=1) (n:=d.R.length) (cells:=d.R.map λx=>.int .i64 x.id) Xh ?_
 have hS:SL W (.ob (bI (.slice none 0 0) 3 1 (jW g.base (d.R.take 0)).length ((jW g.base (d.R.take 0)).map (Value.int .i64)))::_) w:=bI.nil hS
 refine⟨λvs w=>∃(u:Value) (i:Nat),i<=d.R.length/\vs=[u,.int .i64 i]/\SL W (.ob (bI u 3 1 (jW g.base (d.R.take i)).length ((jW g.base (d.R.take i)).map (Value.int .i64)))::.pt lp (j8 sv tv dp g.base g.size) 148::j1 sv xs::.ob (zi ia xs)::.ob (ku tv g.iw)::.ob (dI dp d)::.ob (bI fl 3 1 d.R.length (d.R.map λx=>.int .i64 x.id))::F) w,
  λvs _=>match vs with|[_,.int _ i]=>(d.R.length-i).toNat|_=>0,⟨.slice none 0 0,0,by omega,rfl,aR hS⟩,?_⟩
 clear hS
 rintro v3 nS w ⟨u,i,hi,jR,hS⟩
 cases jR
 refine b9 (λh=>?_) (λh=>?_)
 ·have b8:i<d.R.length:=by omega
  have hu:(d.R.map λx=>Value.int .i64 x.id)[i]?=some (.int .i64 d.R[i].id):=by simp[b8]
  have eFa:(jW g.base (d.R.take i)).length<=100000:=by
   unfold jW
   have:=List.length_filter_le (λf=>decide (g.base<=f/\f<g.base+4096)) ((d.R.take i).map PF.id)
   rw[List.length_map,List.length_take]at this
   omega
  have lZ:jW g.base (d.R.take (i+1))=jW g.base (d.R.take i)++if g.base<=d.R[i].id/\d.R[i].id<g.base+4096 then [d.R[i].id] else []:=by
   unfold jW
   rw[List.take_add_one,List.getElem?_eq_getElem b8,List.map_append,List.filter_append]
   congr 1
   simp only[Option.toList_some,List.map_cons,List.map_nil,List.filter_cons,List.filter_nil,decide_eq_true_eq]
  have rU:∀{w:World} {u:Value},(jW g.base (d.R.take (i+1))=jW g.base (d.R.take i))->SL W (.ob (bI u 3 1 (jW g.base (d.R.take i)).length ((jW g.base (d.R.take i)).map (Value.int .i64)))::.pt lp (j8 sv tv dp g.base g.size) 148::j1 sv xs::.ob (zi ia xs)::.ob (ku tv g.iw)::.ob (dI dp d)::.ob (bI fl 3 1 d.R.length (d.R.map λx=>.int .i64 x.id))::F) w ->
    (∃(u':Value) (i':Nat),i'<=d.R.length/\[u,Value.int .i64 ((i+1:Nat):Int)]=[u',.int .i64 i']/\SL W (.ob (bI u' 3 1 (jW g.base (d.R.take i')).length ((jW g.base (d.R.take i')).map (Value.int .i64)))::.pt lp (j8 sv tv dp g.base g.size) 148::j1 sv xs::.ob (zi ia xs)::.ob (ku tv g.iw)::.ob (dI dp d)::.ob (bI fl 3 1 d.R.length (d.R.map λx=>.int .i64 x.id))::F) w):=λe h=>⟨_,i+1,by omega,rfl,by rw[e];exact h⟩
  refine z8 hS (t:=3) Xh b8 hu ?_
  refine b9 (λh1=>?_) (λh1=>?_)
  ·refine b9 (λh2=>?_) (λh2=>?_)
   ·rw[if_pos ⟨h1,h2⟩]at lZ
    refine Gm λb w hS=>?_
    refine zy (m:=1) (cs:=[.int .i64 d.R[i].id]) hS Xr (lX hS .hd rfl) rfl rfl (by simp[Value.oneCell']) (by omega) (by omega) ?_
    clear hS;intro v' w hS
    have e1:(jW g.base (d.R.take i)).length+1=(jW g.base (d.R.take (i+1))).length:=by rw[lZ,List.length_append];rfl
    have e2:(jW g.base (d.R.take i)).map (Value.int .i64)++[Value.int .i64 d.R[i].id]=(jW g.base (d.R.take (i+1))).map (Value.int .i64):=by rw[lZ,List.map_append];rfl
    rw[e1,e2]at hS
    refine Gp ?_
    exact⟨⟨v',i+1,by omega,rfl,aR hS⟩,by dsimp only;omega⟩
   ·rw[if_neg (by omega),List.append_nil]at lZ
    refine Gp ?_
    exact⟨rU lZ hS,by dsimp only;omega⟩
  ·rw[if_neg (by omega),List.append_nil]at lZ
   refine Gp ?_
   exact⟨rU lZ hS,by dsimp only;omega⟩
 ·have nf:i=d.R.length:=by omega
  subst nf
  rw[List.take_length]at hS
  have hS:=(iM.iff (g:=g)).2 ⟨sv,tv,xs,hx,SL.b_ hS (t:=.pt lp (j8 sv tv dp g.base g.size) 148::j1 sv xs::.ob (zi ia xs)::.ob (ku tv g.iw)::.ob (bI v3 3 1 (jW g.base d.R).length ((jW g.base d.R).map (Value.int .i64)))::.ob (dI dp d)::F) Xi⟩
  exact⟨_,rfl,aR hS⟩
theorem UP(f:Nat):∀b:List UInt8,b.length<f->(∀p∈(lN b).1,p.length<=1048576)/\(lN b).1.length<=(lN b).2:=by
 induction f with
 | zero=>intro b h;omega
 | succ f ih=>
  intro b hb
  cases h:lj b with
  | error e=>rw[Di h];exact⟨by simp,by simp⟩
  | ok x=>
   obtain⟨p,n⟩:=x
   have h2:=Aa h
   obtain⟨i1,i2⟩:=ih (b.drop n) (by rw[List.length_drop];omega)
   rw[Fy h]
   refine⟨λq hq=>?_,?_⟩
   ·rcases List.mem_cons.1 hq with rfl|hq
    ·exact h2.2.2.1
    ·exact i1 q hq
   ·show (p::(lN (b.drop n)).1).length<=n+(lN (b.drop n)).2
    rw[List.length_cons];omega
theorem IX{q:List UInt8}{f:Int}{l:List (List UInt8)}{n:Nat}(h:kf q=some (f,l,n)):1<=f/\f<=1099511627776/\n<=q.length/\l.length<=q.length/\∀p∈l,p.length<=1048576:=by
 obtain⟨h1,h2⟩:=UP (q.length+1) q (by omega)
 have h3:=cwo (q.length+1) q (by omega)
 unfold kf at h
 split at h
 ·cases h
 ·rename_i hd l' hs
  rw[hs]at h1 h2
  cases hh:pO hd with
  | none=>rw[hh]at h;cases h
  | some k=>
   rw[hh]at h
   cases h
   have hk:1<=f/\f<=1099511627776:=by
    unfold pO at hh
    split at hh
    ·unfold AR at hh
     split at hh
     ·split at hh
      ·rename_i hc
       cases hh;exact⟨hc.2.1,hc.2.2⟩
      ·cases hh
     ·cases hh
    ·cases hh
   refine⟨hk.1,hk.2,h3,?_,λp hp=>h1 p (.tail _ hp)⟩
   rw[List.length_cons]at h2;omega
def sY(R:List PF)(base:Int)(N:Nat):Prop:=∀x∈R,base<=x.id->x.id<base+4096->x.b.length<=N
theorem sY.all{R:List PF}{N:Nat}(h:∀x∈R,x.b.length<=N)(base:Int):sY R base N:=λx hx _ _=>h x hx
theorem sY.at_{R:List PF}{base:Int}{N:Nat}(h:sY R base N){f:Int}(hf:base<=f/\f<base+4096):∀x,iz PF.id R f=some x->x.b.length<=N:=λx hx=>by
 obtain⟨h1,h2⟩:=uJ hx
 have h2:x.id=f:=h2
 exact h x h1 (by omega) (by omega)
theorem Is{L:List g6}{R:List PF}{f:Int}{last:Bool}{M N:Nat}(hR:∀x,iz PF.id R f=some x->x.b.length<=N)(hN:N<=M)(f0:0<=f)(f1:f<=100000)(hL:∀s∈L,m_ s M):(∀s∈(mA L R f last).2,m_ s M)/\(mA L R f last).2.length<=L.length+1:=by
 have hq:(((iz PF.id R f).map PF.b).getD []).length<=N:=by
  cases hg:iz PF.id R f with
  | none=>simp
  | some x=>exact hR x hg
 unfold mA
 generalize ((iz PF.id R f).map PF.b).getD []=q at *
 simp only
 cases hr:kf q with
 | none=>exact⟨hL,by simp⟩
 | some y=>
  obtain⟨k,l,n⟩:=y
  have:=IX hr
  simp only
  split
  ·exact⟨hL,by simp⟩
  ·refine⟨λs hs=>?_,by simp⟩
   rcases List.mem_append.1 hs with hs|hs
   ·exact hL s hs
   ·rw[List.mem_singleton.1 hs]
    exact⟨f0,f1,this.1,this.2.1,by show n<=M;omega,by show l.length<=M;omega,this.2.2.2.2⟩
theorem QB(lp dp:Nat)(g:iq)(d:DS)(f:Int)(last:Bool){M B N:Nat}(hg:g.Ok M)(hM:M<=1000000000000)(cR:d.Ok B)(hB:B<=140737488355328)(hfN:∀x,iz PF.id d.R f=some x->x.b.length<=N)(hN:N<=10000000000):
  SP 138 [.pointer (some ⟨lp,0,none⟩),.int .i64 f,.bool last] [.ob (iM lp dp g),.ob (dI dp d)] (eW (.tuple #[.bool (mA g.bW d.R f last).1.1,.bool (mA g.bW d.R f last).1.2]) [.ob (iM lp dp {g with bW:=(mA g.bW d.R f last).2}),.ob (dI dp d)]):=by
 intro W F w hS;apply cRq;delta Ky aF bF a_ aW d_ dW ai bR;(try simp only[app]at hS)
 obtain⟨sv,tv,xs,hx,hS⟩:=iM.iff.1 hS
 obtain⟨rZ,pC,R5,AS⟩:=hg.xs hx
 have ra:c_ (xs.map f_.pl)=c_ g.bW:=by rw[hx]
 have xK:g.bW.length=xs.length:=by rw[<- hx,List.length_map]
 refine Gp ?_
 refine Cc (Yf dp d B cR hB f) ?_;clear hS
 rintro r post hQ w hS
 have hq:(((iz PF.id d.R f).map PF.b).getD []).length<=N:=by
  cases hg:iz PF.id d.R f with
  | none=>simp
  | some x=>exact hfN x hg
 have rV:mA g.bW d.R f last=match kf (((iz PF.id d.R f).map PF.b).getD []) with
  | none=>((false,last),g.bW)
  | some (first,l,n)=>if (last=false/\(n≠(((iz PF.id d.R f).map PF.b).getD []).length\/l.length=0))\/(0<g.bW.length/\first≠c_ g.bW+1)\/1099511627776<first+l.length-1 then ((true,false),g.bW)
   else ((true,true),g.bW++[⟨f,first,n,l⟩]):=rfl
 have iA:∃(X:Chunk) (a:Option Addr) (c:Nat) (bb:Bool),r= .tuple #[.slice a (((iz PF.id d.R f).map PF.b).getD []).length c,.bool bb]/\ix X (.slice a (((iz PF.id d.R f).map PF.b).getD []).length c) (((iz PF.id d.R f).map PF.b).getD [])/\SL W (X::.ob (dI dp d)::.pt lp (j8 sv tv dp g.base g.size) 148::j1 sv xs::.ob (zi ia xs)::.ob (ku tv g.iw)::F) w:=by
  unfold BF at hQ
  cases hg:iz PF.id d.R f with
  | none=>
   rw[hg]at hQ
   obtain⟨rfl,rfl⟩:=hQ
   try simp only[app]at hS
   exact⟨.mem bw.emp,none,0,false,rfl,ix.nil,SL.b_ hS.Iv Xi⟩
  | some x=>
   rw[hg]at hQ
   obtain⟨u,rfl,rfl⟩:=hQ
   try simp only[app]at hS
   obtain⟨a,c,rfl,_⟩:=bI.at hS (v:=u) (t:=5) (sz:=1) (n:=x.b.length) (cells:=x.b.map fI) Xh
   exact⟨.ob (bI (.slice a x.b.length c) 5 1 x.b.length (x.b.map fI)),a,c,true,rfl,ix.own,aR hS⟩
 clear hS hQ
 obtain⟨X,a,c,bb,rfl,hX,hS⟩:=iA
 rw[rV]
 clear rV
 generalize ((iz PF.id d.R f).map PF.b).getD []=q at *
 refine Gp ?_
 refine Cc (qm X _ q hX (by omega)) ?_;clear hS
 rintro r post hQ w hS
 unfold vd at hQ
 cases hr:kf q with
 | none=>
  rw[hr]at hQ
  obtain⟨rfl,rfl⟩:=hQ
  (try simp only[app]at hS);refine Gp ?_
  refine za (λ_=>?_) (λh=>absurd (by decide) h)
  have hS:=(iM.iff (g:=g)).2 ⟨sv,tv,xs,hx,SL.b_ hS (t:=.pt lp (j8 sv tv dp g.base g.size) 148::j1 sv xs::.ob (zi ia xs)::.ob (ku tv g.iw)::.ob (dI dp d)::F) Xi⟩
  exact fw hS
 | some y=>
  obtain⟨first,l,n⟩:=y
  have vG:=IX hr
  rw[hr]at hQ
  obtain⟨u,es,he,rfl,rfl⟩:=hQ
  try simp only[app]at hS
  have q_:l.length=es.length:=by rw[<- he,tG]
  obtain⟨ua,uc,rfl,_⟩:=g8.at hS (v:=u) .hd
  obtain⟨r1,r2,r3,r4,r5⟩:=vG
  simp only[q_,xK]
  have eFq:m_ (f_.pl ⟨f,first,n,es,ua,uc⟩) M\/True:=.inr trivial
  refine Gp ?_
  refine za (λh=>absurd rfl h) (λ_=>?_)
  refine Gm λb w hS=>?_
  obtain⟨sb,rfl⟩:∃k,k=b:=⟨b,rfl⟩
  obtain⟨I,hI⟩:∃I:List Value->World->Prop,I=λvs w=>∃bad:Bool,vs=[.bool bad]/\(bad=true↔((last=false/\(n≠q.length\/es.length=0))\/(0<xs.length/\first≠c_ g.bW+1)\/1099511627776<first+es.length-1)) /\
   SL W (.pt sb [.int .i64 f,.int .i64 first,.int .i64 n,.slice ua es.length uc] 228::.ob (g8 (.slice ua es.length uc) 62 1 es.length (jB es))::.ob (zi jN es)::.ob (dI dp d)::.pt lp (j8 sv tv dp g.base g.size) 148::j1 sv xs::.ob (zi ia xs)::.ob (ku tv g.iw)::F) w:=⟨_,rfl⟩
  refine⟨I,?_,?_⟩
  ·have kX:∀(w:World) (K:Value->World->Prop),¬(last=false/\(n≠q.length\/es.length=0))->SL W (.pt sb [.int .i64 f,.int .i64 first,.int .i64 n,.slice ua es.length uc] 228::.ob (g8 (.slice ua es.length uc) 62 1 es.length (jB es))::.ob (zi jN es)::.ob (dI dp d)::.pt lp (j8 sv tv dp g.base g.size) 148::j1 sv xs::.ob (zi ia xs)::.ob (ku tv g.iw)::F) w ->
     (∀(bad:Bool) w,(bad=true↔((last=false/\(n≠q.length\/es.length=0))\/(0<xs.length/\first≠c_ g.bW+1)\/1099511627776<first+es.length-1))->SL W (.pt sb [.int .i64 f,.int .i64 first,.int .i64 n,.slice ua es.length uc] 228::.ob (g8 (.slice ua es.length uc) 62 1 es.length (jB es))::.ob (zi jN es)::.ob (dI dp d)::.pt lp (j8 sv tv dp g.base g.size) 148::j1 sv xs::.ob (zi ia xs)::.ob (ku tv g.iw)::F) w->K (.bool bad) w) ->
     (Ys (.pointer (some ⟨lp,0,none⟩)) λFJ=>zq 0 FJ λv55=>zq 0 v55 λv56=>cI v56 w λv57=>zd v57 λVq=>zc .gtr Vq (.int .i64 0) λJr=>
      g9 Jr
      (Ys (.pointer (some ⟨lp,0,none⟩)) λv63=>zq 0 v63 λv64=>aw 69 [v64] w λJs Jy=>zc .add Js (.int .i64 1) λv66=>zc .neq (.int .i64 first) v66 λJt=>
       g9 Jt (K (.bool true) Jy)
       (zh 4 (.pointer (some ⟨sb,0,none⟩)) Jy λv71=>aw 152 [v71] Jy λv72 w_6=>zc .sub v72 (.int .i64 1) λv73=>zc .gtr v73 (.int .i64 1099511627776) λv74=>K v74 w_6))
      (zh 4 (.pointer (some ⟨sb,0,none⟩)) w λcIh=>aw 152 [cIh] w λcIj Jz=>zc .sub cIj (.int .i64 1) λcIl=>zc .gtr cIl (.int .i64 1099511627776) λcIn=>K cIn Jz)):=by
    intro w K hn hS hK
    clear bb
    refine Gp ?_
    refine zY hS (v:=sv) (t:=228) (sz:=4) (n:=xs.length) (cells:=(xs.map jw).flatten) Xh ?_
    refine b9 (λh1=>?_) (λh1=>?_)
    ·refine Gp ?_
     refine Cg (yq lp (j8 sv tv dp g.base g.size) 148 sv xs rfl rZ (by omega) (by omega)) λw hS=>?_
     rw[ra]
     refine za (λh2=>?_) (λh2=>?_)
     ·refine hK true _ ⟨λ_=>.inr (.inl ⟨by omega,by omega⟩),λ_=>rfl⟩ (aR hS)
     ·refine Gp ?_
      refine Cg (y5 f first n ua es.length uc (by omega) (by omega)) λw hS=>?_
      refine hK _ _ ⟨λh=>.inr (.inr (by simpa using h)),λh=>?_⟩ (aR hS)
      rcases h with h|h|h
      ·exact absurd h hn
      ·omega
      ·simpa using h
    ·refine Gp ?_
     refine Cg (y5 f first n ua es.length uc (by omega) (by omega)) λw hS=>?_
     refine hK _ _ ⟨λh=>.inr (.inr (by simpa using h)),λh=>?_⟩ (aR hS)
     rcases h with h|h|h
     ·exact absurd h hn
     ·omega
     ·simpa using h
   cases last with
   | false=>
    refine zQ ?_
    refine zw ?_
    refine b9 (λh1=>?_) (λh1=>?_)
    ·rw[hI];exact⟨true,rfl,⟨λ_=>.inl ⟨rfl,.inl (by omega)⟩,λ_=>rfl⟩,aR hS⟩
    ·refine b9 (λh2=>?_) (λh2=>?_)
     ·rw[hI];exact⟨true,rfl,⟨λ_=>.inl ⟨rfl,.inr (by omega)⟩,λ_=>rfl⟩,aR hS⟩
     ·exact kX w (λv w=>I [v] w) (by omega) (aR hS) (λbad w hb h=>by rw[hI];exact⟨bad,rfl,hb,h⟩)
   | true=>
    refine zQ ?_
    refine zt ?_
    exact kX w (λv w=>I [v] w) (by simp) (aR hS) (λbad w hb h=>by rw[hI];exact⟨bad,rfl,hb,h⟩)
  ·clear hS
   rw[hI]
   rintro v75 w ⟨bad,jR,gi,hS⟩
   cases jR
   cases bad with
   | true=>
    refine zw ?_
    rw[if_pos (gi.1 rfl)]
    have hS:=(iM.iff (g:=g)).2 ⟨sv,tv,xs,hx,SL.b_ hS (t:=.pt lp (j8 sv tv dp g.base g.size) 148::j1 sv xs::.ob (zi ia xs)::.ob (ku tv g.iw)::.ob (dI dp d)::F) Xi⟩
    exact fw hS
   | false=>
    refine zt ?_
    rw[if_neg (λh=>by have:=gi.2 h;cases this)]
    refine Gm λb w hS=>?_
    refine Zd (t:=228) (sz:=4) (n:=xs.length) (cells:=(xs.map jw).flatten) (m:=1) (cs:=[.int .i64 f,.int .i64 first,.int .i64 n,.slice ua es.length uc]) hS Xr (lX hS .hd rfl) rfl rfl (by simp[Value.oneCell']) (by omega) (by omega) ?_
    clear hS;intro kR w hS
    have mn:=g8.one hS (v:=kR) .hd
    refine Gn λw hS=>?_
    have hS:=(ia.iff (x:=⟨f,first,n,es,ua,uc⟩)).2 (SL.b_ hS (t:=.ob (g8 (.slice ua es.length uc) 62 1 es.length (jB es))::.ob (zi jN es)::.ob (zi ia xs)::.ob (dI dp d)::.pt lp (j8 kR tv dp g.base g.size) 148::.ob (g8 kR 228 4 (xs.length+1) ((xs.map jw).flatten++[.int .i64 f,.int .i64 first,.int .i64 n,.slice ua es.length uc]))::.ob (ku tv g.iw)::F) Xi)
    have hS:=zi.snoc (hS.b_ (t:=.ob (zi ia xs)::.ob (ia ⟨f,first,n,es,ua,uc⟩)::.ob (dI dp d)::.pt lp (j8 kR tv dp g.base g.size) 148::.ob (g8 kR 228 4 (xs.length+1) ((xs.map jw).flatten++[.int .i64 f,.int .i64 first,.int .i64 n,.slice ua es.length uc]))::.ob (ku tv g.iw)::F) Xi)
    have e1:xs.length+1=(xs++[(⟨f,first,n,es,ua,uc⟩:f_)]).length:=by simp
    have e2:(xs.map jw).flatten++[.int .i64 f,.int .i64 first,.int .i64 n,.slice ua es.length uc]=((xs++[(⟨f,first,n,es,ua,uc⟩:f_)]).map jw).flatten:=by simp[jw,f_.lv]
    rw[e1,e2]at hS
    have mZ:(xs++[(⟨f,first,n,es,ua,uc⟩:f_)]).map f_.pl=g.bW++[⟨f,first,n,l⟩]:=by
     rw[List.map_append,hx];simp[f_.pl,he]
    have hS:=(iM.iff (g:={g with bW:=g.bW++[⟨f,first,n,l⟩]})).2 ⟨kR,tv,xs++[⟨f,first,n,es,ua,uc⟩],mZ,SL.b_ hS (t:=.pt lp (j8 kR tv dp g.base g.size) 148::j1 kR (xs++[⟨f,first,n,es,ua,uc⟩])::.ob (zi ia (xs++[⟨f,first,n,es,ua,uc⟩]))::.ob (ku tv g.iw)::.ob (dI dp d)::F) Xi⟩
    exact fw hS
theorem qr(lp dp:Nat)(g:iq)(d:DS)(iv:Value)(ids:List Int)(whole:Bool){M N:Nat}(hg:g.Ok M)(hM:M<=1000000000000)(cR:d.Ok N)(hN:N<=140737488355328)(iP:d.ops<=100000)(jJ:whole=true->ids≠[]->g.bW≠[])(b8:ids.length<=100000):
  SP 139 [.pointer (some ⟨lp,0,none⟩),iv,.bool whole] [.ob (iM lp dp g),.ob (dI dp d),.ob (bI iv 3 1 ids.length (ids.map (Value.int .i64)))]
   (eW (.int .i64 (lK g.bW d ids whole).2) [.ob (iM lp dp g),.ob (dI dp (lK g.bW d ids whole).1),.ob (bI iv 3 1 ids.length (ids.map (Value.int .i64)))]):=by
 intro W F w hS;apply cRr;delta Kz aF bF a_ d_ dW ai;(try simp only[app]at hS)
 obtain⟨sv,tv,xs,hx,hS⟩:=iM.iff.1 hS
 obtain⟨rZ,pC,_,_⟩:=hg.xs hx
 have lS:∀{w:World} {d':DS},SL W (.pt lp (j8 sv tv dp g.base g.size) 148::j1 sv xs::.ob (zi ia xs)::.ob (ku tv g.iw)::.ob (dI dp d')::.ob (bI iv 3 1 ids.length (ids.map (Value.int .i64)))::F) w->SL W (.ob (iM lp dp g)::.ob (dI dp d')::.ob (bI iv 3 1 ids.length (ids.map (Value.int .i64)))::F) w:=λh=>(iM.iff (g:=g)).2 ⟨_,tv,_,hx,h⟩
 refine zx hS (v:=iv) (t:=3) (sz:=1) (n:=ids.length) (cells:=ids.map (Value.int .i64)) Xh ?_
 refine b9 (λh=>?_) (λh=>?_)
 ·have:ids=[]:=List.eq_nil_of_length_eq_zero (by omega)
  subst this
  have hS:=lS (aR hS)
  exact⟨_,⟨rfl,rfl⟩,hS⟩
 ·have hj:ids.length-1<ids.length:=by omega
  have xK:ids.getLast?=some (ids[ids.length-1]'hj):=by rw[List.getLast?_eq_getElem?,List.getElem?_eq_getElem hj]
  have aW5:ids≠[]:=λe=>by rw[e]at h;simp at h
  have hu:(ids.map (Value.int .i64))[ids.length-1]?=some (.int .i64 (ids[ids.length-1]'hj)):=by simp[hj]
  generalize (ids[ids.length-1]'hj)=f at *
  refine zx hS (v:=iv) (t:=3) (sz:=1) (n:=ids.length) (cells:=ids.map (Value.int .i64)) Xh ?_
  refine Gp ?_
  have e:((ids.length:Nat):Int)-1=((ids.length-1:Nat):Int):=by omega
  rw[e]
  refine z8 hS (v:=iv) (t:=3) Xh hj hu ?_
  cases whole with
  | false=>
   have hb:lK g.bW d ids false=d.remove f:=by unfold lK;rw[xK];rfl
   rw[hb]
   refine zQ ?_
   refine zw ?_
   refine Gp ?_
   refine Cg (Zr dp d N cR iP f) λw hS=>?_
   have hS:=lS (aR hS)
   exact⟨_,⟨rfl,rfl⟩,hS⟩
  | true=>
   have hb:lK g.bW d ids true=if sJ g.bW<rn d.R f then d.cut f (sJ g.bW) else (d,0):=by unfold lK;rw[xK];rfl
   rw[hb]
   refine zQ ?_
   refine zt ?_
   have hn:=jJ rfl aW5
   have hle:0<xs.length:=by
    rcases Nat.eq_zero_or_pos xs.length with h0|h0
    ·rw[<- hx,List.eq_nil_of_length_eq_zero h0]at hn;exact absurd rfl hn
    ·exact h0
   have rh:xs.length-1<xs.length:=by omega
   have Hw:sJ g.bW=((xs[xs.length-1]'rh).size:Nat):=by
    unfold sJ
    rw[<- hx,List.getLast?_map,List.getLast?_eq_getElem?,List.getElem?_eq_getElem rh];rfl
   rw[Hw]
   refine Gn λw hS=>?_
   refine zY hS (v:=sv) (t:=228) (sz:=4) (n:=xs.length) (cells:=(xs.map jw).flatten) Xh ?_
   refine Gp ?_
   have e:((xs.length:Nat):Int)-1=((xs.length-1:Nat):Int):=by omega
   rw[e]
   refine UK (i:=2) hS Xh rh (u:=.int .i64 ((xs[xs.length-1]'rh).size:Nat)) rfl ?_
   generalize (xs[xs.length-1]'rh).size=z at *
   refine Gp ?_
   refine Cg (bIb dp d f) λw hS=>?_
   refine za (λh1=>?_) (λh1=>?_)
   ·rw[if_pos h1]
    refine Gp ?_
    refine Cg (YB dp d N cR (by omega) iP f (z:Int)) λw hS=>?_
    have hS:=lS (aR hS)
    exact⟨_,⟨rfl,rfl⟩,hS⟩
   ·rw[if_neg h1]
    have hS:=lS (aR hS)
    exact⟨_,⟨rfl,rfl⟩,hS⟩
def FU(dp:Nat)(y:DS × Except Int iq)(r:Value)(post:List Chunk):Prop:=match y.2 with
 | .error e=>e≠0/\r= .tuple #[.pointer none,.int .i64 e]/\post=[.ob (dI dp y.1)]
 | .ok g=>∃lp:Nat,r= .tuple #[.pointer (some ⟨lp,0,none⟩),.int .i64 0]/\post=[.ob (iM lp dp g),.ob (dI dp y.1)]
theorem Th{R:List PF}{M N:Nat}{base:Int}(hR:sY R base N)(hN:N<=M)(b0:0<=base)(b1:base<=12288):∀(ids:List Int) (prev:Option Int) (L:List g6) (wh:Bool) (k:Nat),(∀f∈ids,base<=f/\f<base+4096)->(∀s∈L,m_ s M)->L.length<=k->∀{L' Ab},m0 R ids prev L wh=some (L',Ab)->(∀s∈L',m_ s M)/\L'.length<=k+ids.length
 | [],prev,L,wh,k,_,hL,hk,L',Ab,h=>by
  cases h;exact⟨hL,by simpa using hk⟩
 | f::r,prev,L,wh,k,hf,hL,hk,L',Ab,h=>by
  rw[C7]at h
  obtain⟨f0,f1⟩:=hf f (.head _)
  obtain⟨k1,k2⟩:=Is (last:=r.isEmpty) (hR.at_ ⟨f0,f1⟩) hN (by omega) (by omega) hL
  split at h
  ·cases h
  ·split at h
   ·cases h
   ·have:=Th hR hN b0 b1 r _ _ _ (k+1) (λx hx=>hf x (.tail _ hx)) k1 (by omega) h
    exact⟨this.1,by simp at this ⊢;omega⟩
theorem Ig{base:Int}{R:List PF}{f:Int}(h:f∈jW base R):base<=f/\f<base+4096:=by
 unfold jW at h
 have:=(List.mem_filter.1 h).2
 simpa using this
theorem Ie(base:Int)(R:List PF):(jW base R).length<=R.length:=by
 unfold jW
 have:=List.length_filter_le (λf=>decide (base<=f/\f<base+4096)) (R.map PF.id)
 rwa [List.length_map]at this
theorem bWh{d d':DS}{base size:Int}{N:Nat}(hw:sY d.R base N)(hR:d.R.length<=100000){g:iq}(h:kV d base size=(d',.ok g)):g.Ok (N+100000)/\d.off=false:=by
 unfold kV at h
 split at h
 ·cases h
 ·rename_i hb
  split at h
  ·cases h
  ·rename_i ho
   split at h
   ·cases h
   ·rename_i L wh hl
    obtain⟨k1,k2⟩:=Th (M:=N+100000) hw (by omega) (by omega) (by omega) _ _ [] _ 0 (λf hf=>Ig hf) (by simp) (by simp) hl
    have:=Ie base d.R
    have hL:(⟨L,base,size,none⟩:iq).Ok (N+100000):=⟨k1,by show 0<=base;omega,by show base<=12288;omega,by show 64<=size;omega,by show size<=65536;omega,by show L.length<=_;omega⟩
    split at h
    ·cases h
    ·cases h;exact⟨hL,by simpa using ho⟩
theorem bWj(dp:Nat)(d:DS)(base size:Int){N B:Nat}(cR:d.Ok B)(hB:B<=140737488355328)(hw:sY d.R base N)(hN:N<=1000000000)(hR:d.R.length<=100000)(iP:d.ops<=100000):
  SP 55 [.pointer (some ⟨dp,0,none⟩),.int .i64 base,.int .i64 size] [.ob (dI dp d)] (FU dp (kV d base size)):=by
 intro W F w hS;apply dRr;delta N1 aF dW ai gw bR;(try simp only[app]at hS)
 by_cases xE:base<0\/12288<base\/size<64\/65536<size
 ·have e:kV d base size=(d,.error 1):=by unfold kV;rw[if_pos xE]
  rw[e]
  have hE:∀{w:World},SL W (.ob (dI dp d)::F) w->∃post,FU dp (d,.error 1) (.tuple #[.pointer none,.int .i64 1]) post/\SL W (app post F) w:=λh=>⟨_,⟨by decide,rfl,rfl⟩,h⟩
  refine Gp ?_
  refine za (λh=>hE hS) (λh1=>?_)
  refine Gp ?_
  refine za (λh=>hE hS) (λh2=>?_)
  refine Gp ?_
  refine za (λh=>hE hS) (λh3=>?_)
  refine Gp ?_
  refine za (λh=>hE hS) (λh4=>by omega)
 ·refine Gp ?_
  refine za (λh=>by omega) (λ_=>?_)
  refine Gp ?_
  refine za (λh=>by omega) (λ_=>?_)
  refine Gp ?_
  refine za (λh=>by omega) (λ_=>?_)
  refine Gp ?_
  refine za (λh=>by omega) (λ_=>?_)
  refine Cg (yT dp d) λw hS=>?_
  refine yO (λho=>?_) (λho=>?_)
  ·have e:kV d base size=(d,.error 8):=by unfold kV;rw[if_neg xE,if_pos ho]
   rw[e]
   exact⟨_,⟨by decide,rfl,rfl⟩,hS⟩
  ·have eo:kV d base size=match m0 d.R (jW base d.R) none [] true with
    | none=>(d,.error 3)
    | some (L,whole)=>if (lK L d (jW base d.R) whole).2≠0 then ((lK L d (jW base d.R) whole).1,.error (lK L d (jW base d.R) whole).2) else ((lK L d (jW base d.R) whole).1,.ok ⟨L,base,size,none⟩):=by
    unfold kV;rw[if_neg xE,if_neg (by rw[ho];decide)];rfl
   rw[eo]
   have hi:∀f∈jW base d.R,base<=f/\f<base+4096:=λf hf=>Ig hf
   have b8:=Ie base d.R
   refine Gp ?_
   refine⟨_,rfl,zI hS ?_⟩
   clear hS;intro lp w hS
   have hS:=(BI (v:=.pointer none)).2 ⟨rfl,hS⟩
   have hS:=g8.sK (a:=none) (t:=228) (sz:=4) hS
   have hS:=zi.nil (A:=ia) hS
   have hS:=SL.b_ hS (t:=.pt lp (j8 (.slice none 0 0) (.pointer none) dp base size) 148::.ob (g8 (.slice none 0 0) 228 4 0 [])::.ob (zi ia [])::.ob (ku (.pointer none) none)::.ob (dI dp d)::F) Xi
   have hS:=(iM.iff (g:=⟨[],base,size,none⟩)).2 ⟨_,_,[],rfl,hS⟩
   refine Cc (qx lp dp ⟨[],base,size,none⟩ d (M:=0) (N:=B) (by show 0<=base;omega) (by show base<=12288;omega) cR hR) ?_;clear hS
   rintro iv post rfl w hS;(try simp only[app]at hS)
   generalize Ct:jW base d.R=ids at *
   refine zx hS (v:=iv) (t:=3) (sz:=1) (n:=ids.length) (cells:=ids.map (Value.int .i64)) Xh ?_
   refine⟨λvs w=>∃(wh:Bool) (i:Nat) (L:List g6),i<=ids.length/\vs=[.bool wh,.int .i64 i]/\m0 d.R ids none [] true=m0 d.R (ids.drop i) (if i=0 then none else ids[i-1]?) L wh/\(∀s∈L,m_ s (N+100000))/\L.length<=i/\(wh=true->0<i->L≠[])/\SL W (.ob (iM lp dp ⟨L,base,size,none⟩)::.ob (dI dp d)::.ob (bI iv 3 1 ids.length (ids.map (Value.int .i64)))::F) w,
    λvs _=>match vs with|[_,.int _ i]=>(ids.length-i).toNat|_=>0,⟨true,0,[],by omega,rfl,rfl,by simp,by simp,λ_ h=>by omega,aR hS⟩,?_⟩
   clear hS
   rintro v10 v43 w ⟨wh,i,L,Hk,jR,pz,RB,G8,H0,hS⟩
   cases jR
   have G7:(⟨L,base,size,none⟩:iq).Ok (N+100000):=⟨RB,by show 0<=base;omega,by show base<=12288;omega,by show 64<=size;omega,by show size<=65536;omega,by show L.length<=_;omega⟩
   refine b9 (λh1=>?_) (λh1=>?_)
   ·have hj:i<ids.length:=by omega
    have hu:(ids.map (Value.int .i64))[i]?=some (.int .i64 ids[i]):=by simp[hj]
    have vA:=hi _ (List.getElem_mem hj)
    rw[List.drop_eq_getElem_cons hj,C7]at pz
    refine z8 hS (v:=iv) (t:=3) Xh hj hu ?_
    refine zx hS (v:=iv) (t:=3) (sz:=1) (n:=ids.length) (cells:=ids.map (Value.int .i64)) Xh ?_
    refine Gp ?_
    have rU:decide (((i:Nat):Int)=((ids.length:Nat):Int)-1)=(ids.drop (i+1)).isEmpty:=by
     rw[Bool.eq_iff_iff,decide_eq_true_iff,List.isEmpty_iff,List.drop_eq_nil_iff]
     omega
    rw[rU]
    obtain⟨k1,k2⟩:=Is (L:=L) (f:=ids[i]) (last:=(ids.drop (i+1)).isEmpty) (M:=N+100000) (hw.at_ vA) (by omega) (by omega) (by omega) RB
    have CH:(mA L d.R ids[i] (ids.drop (i+1)).isEmpty).1.1=true->(mA L d.R ids[i] (ids.drop (i+1)).isEmpty).1.2=true->(mA L d.R ids[i] (ids.drop (i+1)).isEmpty).2≠[]:=by
     unfold mA
     simp only
     split
     ·intro h;cases h
     ·split
      ·intro _ h;cases h
      ·intro _ _;simp
    refine Cg (QB lp dp ⟨L,base,size,none⟩ d ids[i] (ids.drop (i+1)).isEmpty G7 (by omega) cR hB (hw.at_ vA) (by omega)) λw hS=>?_
    generalize hLG:mA L d.R ids[i] (ids.drop (i+1)).isEmpty=y at *
    obtain⟨⟨is,ok⟩,L2⟩:=y
    simp only at hS pz k1 k2 CH ⊢
    cases ok with
    | false=>
     refine zw ?_
     rw[if_pos rfl]at pz
     rw[pz]
     exact⟨_,⟨by decide,rfl,rfl⟩,aR hS⟩
    | true=>
     refine zt ?_
     rw[if_neg (by decide)]at pz
     have oV:∀{w:World},(¬vq (if i=0 then none else ids[i-1]?) ids[i]=true)->SL W (.ob (iM lp dp ⟨L2,base,size,none⟩)::.ob (dI dp d)::.ob (bI iv 3 1 ids.length (ids.map (Value.int .i64)))::F) w ->
       ∃(wh:Bool) (i':Nat) (L:List g6),i'<=ids.length/\[Value.bool is,Value.int .i64 ((i+1:Nat):Int)]=[.bool wh,.int .i64 i']/\m0 d.R ids none [] true=m0 d.R (ids.drop i') (if i'=0 then none else ids[i'-1]?) L wh/\(∀s∈L,m_ s (N+100000))/\L.length<=i'/\(wh=true->0<i'->L≠[])/\SL W (.ob (iM lp dp ⟨L,base,size,none⟩)::.ob (dI dp d)::.ob (bI iv 3 1 ids.length (ids.map (Value.int .i64)))::F) w:=by
      intro w hp hS
      refine⟨is,i+1,L2,by omega,rfl,?_,k1,by omega,λh _=>CH h rfl,hS⟩
      rw[if_neg hp]at pz
      rw[pz,if_neg (by omega),Nat.add_sub_cancel,List.getElem?_eq_getElem hj]
     refine b9 (λh2=>?_) (λh2=>?_)
     ·have oU:i-1<ids.length:=by omega
      have tR:=hi _ (List.getElem_mem oU)
      refine Gp ?_
      have e:((i:Nat):Int)-1=((i-1:Nat):Int):=by omega
      rw[e]
      have HX:(ids.map (Value.int .i64))[i-1]?=some (.int .i64 (ids[i-1]'oU)):=by simp[oU]
      refine z8 hS (v:=iv) (t:=3) Xh oU HX ?_
      have Ss:vq (if i=0 then none else ids[i-1]?) ids[i]=decide (ids[i]≠(ids[i-1]'oU)+1):=by
       rw[if_neg (by omega),List.getElem?_eq_getElem oU];rfl
      refine b9 (λh3=>?_) (λh3=>?_)
      ·rw[if_pos (by rw[Ss];simpa using h3)]at pz
       rw[pz]
       exact⟨_,⟨by decide,rfl,rfl⟩,aR hS⟩
      ·refine Gp ?_
       exact⟨oV (by rw[Ss];simpa using h3) (aR hS),by dsimp only;omega⟩
     ·refine Gp ?_
      have AT:i=0:=by omega
      exact⟨oV (by rw[if_pos AT];simp[vq]) (aR hS),by dsimp only;omega⟩
   ·have nf:i=ids.length:=by omega
    rw[nf,List.drop_length]at pz
    rw[pz]
    simp only[m0]
    have Em:=Ga (L:=L) (ids:=ids) (wh:=wh) cR
    refine Cg (qr lp dp ⟨L,base,size,none⟩ d iv ids wh G7 (by omega) cR (by omega) iP (λh jJ=>H0 h (by rw[nf];exact List.length_pos_iff.2 jJ)) (by omega)) λw hS=>?_
    simp only at hS ⊢
    refine za (λh2=>?_) (λh2=>?_)
    ·rw[if_pos h2]
     exact⟨_,⟨h2,rfl,rfl⟩,aR hS⟩
    ·rw[if_neg h2]
     exact⟨_,⟨lp,rfl,rfl⟩,aR hS⟩
section
variable (lp dp:Nat) (g:iq) {M:Nat} (hg:g.Ok M) (hM:M<=1000000000000)
include hg hM
theorem QA:SP 69 [.pointer (some ⟨lp,0,none⟩)] [.ob (iM lp dp g)] (eW (.int .i64 (c_ g.bW)) [.ob (iM lp dp g)]):=by
 intro W F w hS
 obtain⟨sv,tv,xs,hx,hS⟩:=iM.iff.1 hS
 obtain⟨h1,h2,_,_⟩:=hg.xs hx
 refine yQ (yq lp (j8 sv tv dp g.base g.size) 148 sv xs rfl h1 (by omega) (by omega)) hS Xp ?_
 rintro v post ⟨rfl,rfl⟩ w hS
 try simp only[app]at hS
 rw[hx]
 exact⟨_,⟨rfl,rfl⟩,iM.iff.2 ⟨sv,tv,xs,hx,aR hS⟩⟩
theorem bIv:SP 70 [.pointer (some ⟨lp,0,none⟩)] [.ob (iM lp dp g)] (eW (.int .i64 (jT g.bW)) [.ob (iM lp dp g)]):=by
 intro W F w hS
 obtain⟨sv,tv,xs,hx,hS⟩:=iM.iff.1 hS
 obtain⟨h1,h2,_,_⟩:=hg.xs hx
 refine yQ (bIu lp (j8 sv tv dp g.base g.size) 148 sv xs rfl (by omega)) hS Xp ?_
 rintro v post ⟨rfl,rfl⟩ w hS
 try simp only[app]at hS
 rw[hx]
 exact⟨_,⟨rfl,rfl⟩,iM.iff.2 ⟨sv,tv,xs,hx,aR hS⟩⟩
theorem QS(n:Int)(hn : -9000000000000000000<=n/\n<=9000000000000000000):SP 71 [.pointer (some ⟨lp,0,none⟩),.int .i64 n] [.ob (iM lp dp g)] (BE [.ob (iM lp dp g)] (lE g.bW n)):=by
 intro W F w hS
 obtain⟨sv,tv,xs,hx,hS⟩:=iM.iff.1 hS
 obtain⟨h1,h2,_,_⟩:=hg.xs hx
 refine yQ (QR lp (j8 sv tv dp g.base g.size) 148 sv xs n rfl h1 (by omega) (by omega) hn) hS Xp ?_
 intro r post hQ w hS
 rw[hx]at hQ
 cases hr:lE g.bW n with
 | none=>
  rw[hr]at hQ
  obtain⟨rfl,rfl⟩:=hQ
  try simp only[app]at hS
  exact⟨_,⟨rfl,rfl⟩,iM.iff.2 ⟨sv,tv,xs,hx,aR hS⟩⟩
 | some b=>
  rw[hr]at hQ
  obtain⟨u,rfl,rfl⟩:=hQ
  try simp only[app]at hS
  have hS:=(iM.iff (g:=g)).2 ⟨sv,tv,xs,hx,SL.b_ hS (t:=.pt lp (j8 sv tv dp g.base g.size) 148::j1 sv xs::.ob (zi ia xs)::.ob (ku tv g.iw)::.ob (bI u 5 1 b.length (b.map fI))::F) Xi⟩
  exact⟨_,⟨u,rfl,rfl⟩,aR hS⟩
end
abbrev ry(tp dp lp:Nat)(kx image:Int):List Value:=[eF tp,eF dp,eF lp,.int .i64 kx,.int .i64 image]
def iC(sp tp dp lp:Nat)(k:g_):zE:=zU True [.pt sp (ry tp dp lp k.kx k.image) 58,.ob (jD tp k.ts),.ob (iM lp dp k.g)]
section
variable {W w:World} {l F:List Chunk} {sp tp dp lp:Nat}
theorem iC.iff{k:g_}:SL W (.ob (iC sp tp dp lp k)::l) w↔SL W (.pt sp (ry tp dp lp k.kx k.image) 58::.ob (jD tp k.ts)::.ob (iM lp dp k.g)::l) w:=by
 unfold iC
 simp only[SL.fact,true_and,List.cons_append,List.nil_append]
theorem iC.put(k:g_)(hS:SL W l w)(p:kI [.pt sp (ry tp dp lp k.kx k.image) 58,.ob (jD tp k.ts),.ob (iM lp dp k.g)] l F):SL W (.ob (iC sp tp dp lp k)::F) w:=iC.iff.2 (hS.pick p)
end
theorem iC.o5{W w:World}{l F:List Chunk}{sp tp dp lp:Nat}{g:iq}{d:DS}{ts:kC}{kx image:Int}(hS:SL W l w)(p:kI [.pt sp (ry tp dp lp kx image) 58,.ob (jD tp ts),.ob (iM lp dp g)] l F):SL W (.ob (iC sp tp dp lp ⟨g,d,ts,kx,image⟩)::F) w:=iC.iff.2 (hS.pick p)
structure nu(k:g_)(N:Nat):Prop where
 g:oM k.g N
 d:k.d.Ok N
 rows:∀C∈k.ts,sk C
 len:∀C∈k.ts,C.length<=1000
 n1:1<=k.ts.length
 n8:k.ts.length<=8
section
variable (sp tp dp lp:Nat) (k:g_) {N:Nat} (hg:oM k.g N) (hN:N<=1000000000)
include hg hN
theorem yi:SP 21 [eF sp] [.ob (iC sp tp dp lp k)] (eW (.int .i64 (c_ k.g.bW)) [.ob (iC sp tp dp lp k)]):=by
 intro W F w hS;apply c_n;delta LD bF d_;(try simp only[app]at hS)
 have hS:=iC.iff.1 hS
 refine Gp ?_
 refine Cg (QA lp dp k.g hg.ok (by omega)) λw hS=>?_
 exact⟨_,⟨rfl,rfl⟩,SL.b_ (iC.put k hS Xp) Xi⟩
theorem YT:SP 22 [eF sp] [.ob (iC sp tp dp lp k)] (eW (.int .i64 (jT k.g.bW)) [.ob (iC sp tp dp lp k)]):=by
 intro W F w hS;apply c_y;delta LO bF d_;(try simp only[app]at hS)
 have hS:=iC.iff.1 hS
 refine Gp ?_
 refine Cg (bIv lp dp k.g hg.ok (by omega)) λw hS=>?_
 exact⟨_,⟨rfl,rfl⟩,SL.b_ (iC.put k hS Xp) Xi⟩
def ve(sp tp dp lp:Nat)(k:g_)(H:bw)(aI:Int)(r:Value)(post:List Chunk):Prop:=match k.kf aI with
 | .error e=>e≠0/\∃H',H.le H'/\r= .tuple #[agg (iG uq),.int .i64 e]/\post=[.ob (iC sp tp dp lp k),.mem H']
 | .ok t=>∃x H',H.le H'/\r= .tuple #[agg (iG x),.int .i64 0]/\kS H' x t/\post=[.ob (iC sp tp dp lp k),.mem H']
theorem yM(H:bw)(aI:Int)(hl : -9000000000000000000<=aI/\aI<=9000000000000000000):SP 23 [eF sp,.int .i64 aI] [.ob (iC sp tp dp lp k),.mem H] (ve sp tp dp lp k H aI):=by
 intro W F w hS;apply c_9;delta L1 aF bF d_ ai bR;(try simp only[app]at hS)
 refine Gb λzb w hS=>?_
 have hS:=iC.iff.1 (SL.b_ hS (t:=.ob (iC sp tp dp lp k)::.pt zb [.int .i64 0,.int .i64 0,.slice none 0 0,.slice none 0 0,.int .i64 0] 39::.mem H::F) Xi)
 refine Gp ?_
 refine Cc (QS lp dp k.g hg.ok (by omega) aI hl) ?_;clear hS
 rintro r post hq w hS
 unfold BE at hq
 cases hr:lE k.g.bW aI with
 | none=>
  rw[hr]at hq
  obtain⟨rfl,rfl⟩:=hq
  have he:k.kf aI= .error 5:=by unfold g_.kf;rw[hr]
  try simp only[app]at hS
  have hS:=iC.put k hS Xp
  refine Gp ?_
  refine za (λ_=>?_) (λh=>absurd (by decide) h)
  refine Gn λw hS=>?_
  exact⟨[.ob (iC sp tp dp lp k),.mem H],by unfold ve;rw[he];exact⟨by decide,H,bw.le_refl H,rfl,rfl⟩,aR hS⟩
 | some bs=>
  rw[hr]at hq
  obtain⟨u,rfl,rfl⟩:=hq
  have he:k.kf aI=mw bs:=by unfold g_.kf;rw[hr]
  try simp only[app]at hS
  have hS:=iC.put k hS Xp
  refine Gp ?_
  refine za (λh=>absurd rfl h) (λ_=>?_)
  refine Cc (QM (.ob (bI u 5 1 bs.length (bs.map fI))) H u bs ix.own) ?_;clear hS
  rintro r post hq w hS
  unfold sS at hq
  cases hd:mw bs with
  | error e=>
   rw[hd]at hq
   obtain⟨jJ,H',hh,rfl,rfl⟩:=hq
   try simp only[app]at hS
   unfold iG uq
   refine Gn λw hS=>?_
   refine⟨[.ob (iC sp tp dp lp k),.mem H'],?_,aR hS⟩
   unfold ve;rw[he,hd];exact⟨jJ,H',hh,rfl,rfl⟩
  | ok t=>
   rw[hd]at hq
   obtain⟨x,H',hh,rfl,hx,rfl⟩:=hq
   try simp only[app]at hS
   have kD:=hx.cv.one
   have nJ:=hx.sv.one
   refine Gp ?_
   refine zB (vs:=iG x) hS Xu rfl rfl (rM (aI:=x.aI) (kind:=x.kind) (mark:=x.mark) kD nJ) λw hS=>?_
   refine zL hS Xh rfl ?_
   refine⟨[.ob (iC sp tp dp lp k),.mem H'],?_,aR hS⟩
   unfold ve;rw[he,hd];exact⟨x,H',hh,rfl,hx,rfl⟩
end
section
variable (sp tp dp lp:Nat) (k:g_)
theorem Qo(t key n:Int)(hn:∀C∈k.ts,C.length<=1000000)(hs:∀C∈k.ts,kB C)(h1 : -1000000<=n)(h2:n<=9000000000000000000):SP 28 [eF sp,.int .i64 t,.int .i64 key,.int .i64 n] [.ob (iC sp tp dp lp k)] (λu post=>post=[jC u (k.s6 t key n),.ob (iC sp tp dp lp k)]):=by
 intro W F w hS;apply dFk;delta MO bF;(try simp only[app]at hS)
 have hS:=iC.iff.1 hS
 refine Gp ?_
 refine Cc (Qq tp k.ts t key n hn hs h1 h2) ?_;clear hS
 rintro u post rfl w hS
 try simp only[app]at hS
 exact⟨_,rfl,SL.b_ (t:=jC u (oy (lz k.ts t) key n)::.ob (iC sp tp dp lp k)::F) (iC.put k hS Xp) Xi⟩
end
theorem Z2(H:bw)(v:Value)(l:List iy)(n:Int)(hv:fW H 4 v l.length (l.map jE).flatten)(hl:l.length<=140737488351232):SP 62 [v,.int .i64 n] [.mem H] (eW (.bool (decide (∀c∈l,c.table<n))) [.mem H]):=by
 intro W F w hS;apply dRx;delta N8 aF a_ cw ai dw;(try simp only[app]at hS)
 refine zn hv ?_
 refine⟨λus w=>∃i:Nat,us=[.int .i64 i]/\i<=l.length/\(∀j (h:j<l.length),j<i->l[j].table<n)/\SL W (.mem H::F) w,λus _=>match us with|[.int _ i]=>(l.length-i).toNat|_=>0,⟨0,rfl,by omega,λj h hj=>by omega,hS⟩,?_⟩
 clear hS
 rintro v9 w ⟨i,dR,hi,iD,hS⟩
 cases dR
 refine b9 (λh=>?_) (λh=>?_)
 ·have b8:i<l.length:=by omega
  refine zK hS Xh mP hv (x:=l[i]) (by simp[b8]) b8 ?_
  have hf:¬l[i].table<n->decide (∀c∈l,c.table<n)=false:=λh=>decide_eq_false λh2=>h (h2 _ (List.getElem_mem b8))
  have Ha:l[i].table<n->∀j (h:j<l.length),j<i+1->l[j].table<n:=λh j hj ll=>by
   by_cases e:j=i
   ·subst e;exact h
   ·exact iD j hj (by omega)
  clear iD
  generalize l[i]=c at *
  obtain⟨ct,ck,cg,cv⟩:=c
  rw[PR]
  refine Gm λb w hS=>?_
  refine za (λhb=>?_) (λhb=>?_)
  ·rw[hf (by show ¬ct<n;omega)]
   (exact fw hS)
  ·refine Gp ?_
   refine⟨⟨i+1,rfl,by omega,Ha (by show ct<n;omega),aR hS⟩,by dsimp only;omega⟩
 ·rw[show decide (∀c∈l,c.table<n)=true from decide_eq_true λc hc=>by
   obtain⟨j,hj,rfl⟩:=List.getElem_of_mem hc
   exact iD j hj (by omega)]
  (exact fw hS)
theorem It{t:gW}(h:ji t=true){n:Int}(h1:1<=n)(h2:n<=1099511627776):ji {t with aI:=n}=true:=by
 obtain⟨_,h3⟩:=wO.1 h
 exact wO.2 ⟨⟨h1,h2⟩,h3⟩
abbrev Ad(sp tp dp lp:Nat)(H:bw)(y:g_ × (Int × Int)):Value->List Chunk->Prop:=eW (.tuple #[.int .i64 y.2.1,.int .i64 y.2.2]) [.ob (iC sp tp dp lp y.1),.ob (dI dp y.1.d),.mem H]
theorem YQ(sp tp dp lp:Nat)(k:g_)(H:bw)(x:mu)(t:gW)(hx:kS H x t)(hm:ji t=true){N:Nat}(hk:nu k N)(hN:N<=1000000000)(iP:k.d.ops<=90000):
  SP 63 [eF sp,agg (iG x)] [.ob (iC sp tp dp lp k),.ob (dI dp k.d),.mem H] (Ad sp tp dp lp H (k.lP t)):=by
 intro W F w hS;apply dRy;delta N9 aF bF a_ dW ai;(try simp only[app]at hS)
 have hg:=hk.g
 obtain⟨HQ,A5,HR,HS,HT,CT,HU⟩:=nB hm
 have Es:=uP hg.ok.bW
 have hn6:∀C∈k.ts,C.length<=1000000:=λC hC=>by have:=hk.len C hC;omega
 have kK:∀C∈k.ts,kB C:=λC hC=>(hk.rows C hC).sorted
 have h8:=hk.n8
 refine zC hS λxb w hS=>?_
 unfold iG at hS
 rw[hx.aI,hx.kind,hx.mark]at hS
 have hS:=iC.iff.1 (SL.b_ hS (t:=.ob (iC sp tp dp lp k)::oN xb x t::.ob (dI dp k.d)::.mem H::F) Xi)
 refine Gp ?_
 refine Cg (yT dp k.d) λw hS=>?_
 cases ho:k.d.off with
 | true=>
  refine zw ?_
  rw[show k.lP t=(k,(0,8)) by unfold g_.lP;rw[if_pos ho]]
  exact⟨_,⟨rfl,rfl⟩,SL.b_ (iC.put k hS Xp) Xi⟩
 | false=>
  refine zt ?_
  refine Gn λw hS=>?_
  refine Cg (cF3 tp k.ts H x.cv t.changes hx.cv (by omega) kK hn6 (by omega) (by omega)) λw hS=>?_
  refine zz (λhf=>?_) (λhf=>?_)
  ·rw[show k.lP t=(k,(0,7)) by unfold g_.lP;rw[if_neg (by simp[ho]),if_pos (.inl hf)]]
   exact⟨_,⟨rfl,rfl⟩,SL.b_ (iC.put k hS Xp) Xi⟩
  have hS:=iC.put k hS Xp
  refine Cg (yi sp tp dp lp k hg hN) λw hS=>?_
  refine za (λhh=>?_) (λhh=>?_)
  ·rw[show k.lP t=(k,(0,7)) by unfold g_.lP;rw[if_neg (by simp[ho]),if_pos (.inr hh)]]
   exact fw hS
  refine Cg (yi sp tp dp lp k hg hN) λw hS=>?_
  have tc:=It hm (n:=c_ k.g.bW+1) (by omega) (by omega)
  have mZ:kS H ⟨c_ k.g.bW+1,t.kind,x.cv,x.sv,t.mark⟩ {t with aI:=c_ k.g.bW+1}:=⟨rfl,rfl,rfl,hx.cv,hx.sv⟩
  have Ch:k.lP t=(let r:=kn k.g k.d (mv {t with aI:=c_ k.g.bW+1});if r.2.2=0 then ({k with g:=r.1.1,d:=r.1.2,ts:=jS k.ts t.changes},(c_ k.g.bW+1,0)) else ({k with g:=r.1.1,d:=r.1.2},(0,r.2.2))):=by
   unfold g_.lP
   rw[if_neg (by simp[ho]),if_neg (by rw[hf];simp;omega)]
  have vx:=DQ tc
  have Em:=Pe tc
  rw[Ch]
  clear Ch
  generalize hq:({t with aI:=c_ k.g.bW+1}:gW)=t2 at *
  have EH:1<=c_ k.g.bW+1:=by omega
  generalize c_ k.g.bW+1=aI at *
  refine Cc (QN H ⟨aI,t.kind,x.cv,x.sv,t.mark⟩ t2 mZ) ?_;clear hS
  rintro r post hq w hS
  unfold vZ at hq
  rw[Em]at hq
  obtain⟨bv,rfl,rfl⟩:=hq
  try simp only[app]at hS
  have hS:=iC.iff.1 (SL.b_ hS (t:=.ob (iC sp tp dp lp k)::.ob (bI bv 5 1 (pZ t2).length ((pZ t2).map fI))::.ob (dI dp k.d)::.pt xb [.int .i64 aI,.int .i64 t.kind,x.cv,x.sv,.int .i64 t.mark] 39::.mem H::F) Xi)
  refine Gp ?_
  refine⟨λus w=>us=[.int .i64 (kn k.g k.d (mv t2)).2.2]/\SL W (.ob (iM lp dp (kn k.g k.d (mv t2)).1.1)::.ob (dI dp (kn k.g k.d (mv t2)).1.2)::.pt sp (ry tp dp lp k.kx k.image) 58::.ob (jD tp k.ts)::.pt xb [.int .i64 aI,.int .i64 t.kind,x.cv,x.sv,.int .i64 t.mark] 39::.mem H::F) w,?_,?_⟩
  ·refine Gp ?_
   refine za (λ_=>?_) (λh=>absurd rfl h)
   refine Gp ?_
   refine Cg (YX (.ob (bI bv 5 1 (pZ t2).length ((pZ t2).map fI))) lp dp k.g k.d bv (pZ t2) ix.own (by omega) hg.ok (by omega) hk.d (by omega) iP) λw hS=>?_
   exact aR hS
  clear hS
  rintro v7 w ⟨dR,hS⟩
  cases dR
  generalize kn k.g k.d (mv t2)=r at *
  obtain⟨⟨g',d'⟩,n',e'⟩:=r
  simp only at hS ⊢
  refine b9 (λhe=>?_) (λhe=>?_)
  ·rw[if_neg he]
   exact⟨_,⟨rfl,rfl⟩,SL.b_ (iC.o5 (d:=d') hS Xp) Xi⟩
  ·have he:e'=0:=by omega
   rw[if_pos he]
   refine Gn λw hS=>?_
   refine Cg (ZT tp k.ts H x.cv t.changes hx.cv (by omega) kK 1000 hk.len (by omega)) λw hS=>?_
   have iD:t.changes.all (kJ k.ts.length)=true:=by
    unfold pr at hf
    rw[Bool.and_eq_true]at hf
    exact hf.1
   rw[if_pos iD]at hS
   exact⟨_,⟨rfl,rfl⟩,SL.b_ (iC.o5 (d:=d') hS Xp) Xi⟩
theorem Zx(sp tp dp lp:Nat)(k:g_)(H:bw)(sv cv:Value)(sg:List ByteArray)(l:List iy)(hs:fW H 1 sv sg.length (sg.map Value.string))(hc:fW H 4 cv l.length (l.map jE).flatten)(hl:l.length<=140737488351232){N:Nat}(hk:nu k N)(hN:N<=1000000000)(iP:k.d.ops<=90000):
  SP 18 [eF sp,sv,cv] [.ob (iC sp tp dp lp k),.ob (dI dp k.d),.mem H] (Ad sp tp dp lp H (k.nx sg l)):=by
 intro W F w hS;apply cWv;delta Lb bF dW ai bR;(try simp only[app]at hS)
 have tZ:=hs.one
 have kD:=hc.one
 have hx:kS H ⟨1,1,cv,sv,0⟩ ⟨1,1,l,sg,0⟩:=⟨rfl,rfl,rfl,hc,hs⟩
 have e0:lr [.int .i64 0,.int .i64 0,.slice none 0 0,.slice none 0 0,.int .i64 0] [(0,1,.int .i64 1),(1,1,.int .i64 1),(2,1,cv),(3,1,sv)]=some (iG ⟨1,1,cv,sv,0⟩):=by
  simp[lr,show ∀n,(Value.int .i64 n).cells = #[.int .i64 n] from λ_=>rfl,vQ tZ,vQ kD,iG]
 refine yz e0 ?_
 refine Gb λxb w hS=>?_
 refine zB hS Xu rfl rfl (rM kD tZ) λw hS=>?_
 refine zL hS Xh rfl ?_
 refine Cg (yx H ⟨1,1,cv,sv,0⟩ ⟨1,1,l,sg,0⟩ hx) λw hS=>?_
 refine zz (λhm=>?_) (λhm=>?_)
 ·rw[show k.nx sg l=(k,(0,1)) by unfold g_.nx;rw[if_neg (by rw[hm];simp)]]
  exact fw hS
 have hS:=iC.iff.1 (SL.b_ hS (t:=.ob (iC sp tp dp lp k)::.pt xb (iG ⟨1,1,cv,sv,0⟩) 39::.ob (dI dp k.d)::.mem H::F) Xi)
 refine Gp ?_
 refine Cg (yZ tp k.ts) λw hS=>?_
 refine Cg (Z2 H cv l k.ts.length hc hl) λw hS=>?_
 have hS:=iC.put k hS Xp
 refine zz (λhb=>?_) (λhb=>?_)
 ·have hb:=of_decide_eq_false hb
  rw[show k.nx sg l=(k,(0,1)) by unfold g_.nx;rw[if_neg λh=>hb h.2]]
  exact fw hS
 have hb:=of_decide_eq_true hb
 rw[show k.nx sg l=k.lP ⟨1,1,l,sg,0⟩ by unfold g_.nx;rw[if_pos ⟨hm,hb⟩]]
 refine zL hS Xh rfl ?_
 refine Cg (YQ sp tp dp lp k H ⟨1,1,cv,sv,0⟩ ⟨1,1,l,sg,0⟩ hx hm hk hN iP) λw hS=>?_
 exact fw hS
def k6(n:Int)(l:List gW)(k:Int):List (List Row):=if n<1\/8<n then [] else (List.range n.toNat).map λt:Nat=>wx t (l.take (aR8 k l.length))
theorem aiv(l:List gW)(tb:Int)(i:Nat):(wx tb (l.take i)).length<=(l.flatMap (·.changes)).length:=by
 have h2:=bIg (l:=(l.take i).flatMap (·.changes)) [] tb
 have e:(l.flatMap (·.changes)).length=((l.take i).flatMap (·.changes)).length+((l.drop i).flatMap (·.changes)).length:=by
  have:l=l.take i++l.drop i:=by simp
  conv=>lhs;rw[this]
  simp only[List.flatMap_append,List.length_append]
 unfold wx
 simp only[List.length_nil]at h2
 omega
theorem TX{base size:Int}(b0:0<=base)(b1:base<=12288)(s0:64<=size)(s1:size<=65536):kV mF base size=(mF,.ok ⟨[],base,size,none⟩):=
 bWm (L:=[]) (f:=base) (n:=1) trivial rfl rfl b0 b1 s0 s1 (Int.le_refl _) (by simp;omega) (by decide) (by simp[iY])
theorem bIi{base size:Int}(b0:0<=base)(b1:base<=12288)(s0:64<=size)(s1:size<=65536):tC ⟨[],base,size,none⟩ mF base 1 []:=
 ⟨trivial,rfl,rfl,λ_=>⟨rfl,rfl⟩,Int.le_refl _,b0,b1,s0,s1,by decide,by show base+((0:Nat):Int)+2<=base+4096;omega,rfl,rfl⟩
theorem bR3{base size:Int}(b0:0<=base)(b1:base<=12288)(s0:64<=size)(s1:size<=65536):(⟨[],base,size,none⟩:iq).Ok 0:=⟨by simp,b0,b1,s0,s1,Nat.le_refl _⟩
structure nF(n:Nat)(all:List gW):Prop where
 ok:DD n all
 len:all.length<=1000
 k8:(all.flatMap (·.changes)).length<=1000
theorem nF.nil(n:Nat):nF n []:=⟨⟨by simp,λi h=>by simp at h,by simp⟩,by decide,by decide⟩
theorem nF.take{n:Nat}{all:List gW}(h:nF n all)(j:Nat):nF n (all.take j):=by
 refine⟨⟨λt ht=>h.ok.may t (List.mem_of_mem_take ht),λi hi=>?_,λt ht=>h.ok.ch t (List.mem_of_mem_take ht)⟩,by rw[List.length_take];have:=h.len;omega,?_⟩
 ·rw[List.getElem_take];exact h.ok.aI i _
 ·have e:(all.flatMap (·.changes)).length=((all.take j).flatMap (·.changes)).length+((all.drop j).flatMap (·.changes)).length:=by
   conv=>lhs;rw[<- List.take_append_drop j all]
   rw[List.flatMap_append,List.length_append]
  have:=h.k8
  omega
theorem nF.row{n:Nat}{all:List gW}(h:nF n all):∀C∈lG n all,C.length<=1000:=λC hC=>by
 unfold lG at hC
 obtain⟨t,_,rfl⟩:=List.mem_map.1 hC
 have:=aiv all (t:Int) all.length
 rw[List.take_length]at this
 have:=h.k8
 omega
theorem nF.rows{n:Nat}{all:List gW}(h:nF n all):∀C∈lG n all,sk C:=cFu h.ok.may h.ok.ch
theorem nF.bw7{n:Nat}{all:List gW}(h:nF n all)(n1:1<=n)(n8:n<=8):JM n all:=λj hj=>by
 have ht:=h.take j
 have hl:=h.len
 refine uh.2 ⟨⟨by omega,by omega,by rw[u6];exact n1,by rw[u6];exact n8⟩,λC hC=>⟨(ht.rows C hC).sorted,(ht.rows C hC).rows,ht.row C hC⟩⟩
theorem nF.fits{n:Nat}{all:List gW}{t:gW}(h:nF n (all++[t])):pr (lG n all) t.changes=true:=by
 have hc:=h.ok.ch t (by simp)
 have hr:=h.row
 rw[<- FF hc]at hr
 unfold pr
 rw[Bool.and_eq_true,List.all_eq_true,List.all_eq_true]
 exact⟨λc kN=>by rw[u6];exact hc c kN,λC hC=>decide_eq_true (hr C hC)⟩
theorem nF.app{n:Nat}{all:List gW}(h:nF n all){t:gW}(hm:ji t=true)(hl:t.aI=(all.length:Int)+1)(hc:∀c∈t.changes,kJ n c=true)(h1:all.length+1<=1000)(h2:(all.flatMap (·.changes)).length+t.changes.length<=1000):nF n (all++[t]):=by
 refine⟨⟨λx hx=>?_,λi hi=>?_,λx hx=>?_⟩,by rw[List.length_append];exact h1,by rw[List.flatMap_append,List.length_append];simpa using h2⟩
 ·rcases List.mem_append.1 hx with hx|hx
  ·exact h.ok.may x hx
  ·rw[List.mem_singleton.1 hx];exact hm
 ·rw[List.getElem_append]
  split
  ·exact h.ok.aI i _
  ·rename_i hn
   rw[List.length_append,List.length_singleton]at hi
   simp only[List.getElem_singleton]
   rw[hl];omega
 ·rcases List.mem_append.1 hx with hx|hx
  ·exact h.ok.ch x hx
  ·rw[List.mem_singleton.1 hx];exact hc
theorem nu.mono{k:g_}{N M:Nat}(h:nu k N)(hm:N<=M):nu k M:=⟨h.g.mono hm,h.d.mono hm,h.rows,h.len,h.n1,h.n8⟩
theorem nu.add{k:g_}{N:Nat}(h:nu k N){t:gW}(hm:ji t=true):nu (k.lP t).1 (N+2000):=by
 unfold g_.lP
 split
 ·exact h.mono (by omega)
 ·split
  ·exact h.mono (by omega)
  ·rename_i ho hf
   have Cs:=uP h.g.ok.bW
   have tc:=It hm (n:=c_ k.g.bW+1) (by omega) (by omega)
   have hl:=DQ tc
   have hb:(mv {t with aI:=c_ k.g.bW+1}).length<=1200:=hl
   have hg:=Wh (d:=k.d) h.g (mv {t with aI:=c_ k.g.bW+1})
   have hd:=Wj (g:=k.g) h.d (mv {t with aI:=c_ k.g.bW+1})
   generalize mv {t with aI:=c_ k.g.bW+1}=p at *
   have sF:pr k.ts t.changes=true:=by
    cases hq:pr k.ts t.changes with
    | true=>rfl
    | false=>exact absurd (Or.inl hq) hf
   simp only
   split
   ·unfold pr at sF
    rw[Bool.and_eq_true,List.all_eq_true,List.all_eq_true]at sF
    refine⟨hg.mono (by omega),hd.mono (by omega),F7 (k:=8) h.rows (nB hm).2.2.2.2.2.1 sF.1,λC hC=>of_decide_eq_true (sF.2 C hC),?_,?_⟩
    ·show 1<=(jS k.ts t.changes).length
     rw[uy];exact h.n1
    ·show (jS k.ts t.changes).length<=8
     rw[uy];exact h.n8
   ·exact⟨hg.mono (by omega),hd.mono (by omega),h.rows,h.len,h.n1,h.n8⟩
theorem nu.Av{k:g_}{N:Nat}(h:nu k N)(sg:List ByteArray)(l:List iy):nu (k.nx sg l).1 (N+2000):=by
 unfold g_.nx
 split
 ·rename_i hc;exact h.add hc.1
 ·exact h.mono (by omega)
def rm(n:Nat)(size:Int):g_:=⟨⟨[],16,size,none⟩,mF,List.replicate n [],-1,0⟩
theorem UX{n:Nat}(n1:1<=n)(n8:n<=8){size:Int}(s0:64<=size)(s1:size<=65536):sL mF n size=(mF,.ok (rm n size))/\w_ n (rm n size) [] 0 [] mF 16 0 0:=by
 have s_:v_ n [] [] (-1) 0:=⟨.nil,by simp,by simp,λ_=>rfl,.inl rfl,Nat.le_refl _,λh=>absurd rfl h,by simp⟩
 have hw:j2 16 4112 [] [] mF.R:=⟨by simp,by simp[mF],by simp⟩
 have:=bWk n1 n8 (nF.nil n).ok ((nF.nil n).bw7 n1 n8) (I:=[]) (tr:=0) (TX (base:=16) (by decide) (by decide) s0 s1) hw (bIi (by decide) (by decide) s0 s1) rfl s_ (Nat.le_refl _) (Nat.le_refl _) (by decide)
 rw[Jn]at this
 exact this
theorem cwx{n:Nat}(n1:1<=n)(n8:n<=8){size:Int}(s0:64<=size)(s1:size<=65536):nu (rm n size) 0:=
 ⟨⟨bR3 (by decide) (by decide) s0 s1,trivial,show (0:Int)<=1099511627776 by decide,λx hx=>by cases hx⟩,I3 0,λC hC=>by rw[(List.mem_replicate.1 hC).2];exact Ut,λC hC=>by rw[(List.mem_replicate.1 hC).2];exact Nat.zero_le _,by show 1<=(List.replicate n []).length;rw[List.length_replicate];exact n1,by show (List.replicate n []).length<=8;rw[List.length_replicate];exact n8⟩
theorem w_.read{n:Nat}{k:g_}{all:List gW}{tr:Nat}{I:List PF}{d0:DS}{f:Int}{lo m:Nat}(h:w_ n k all tr I d0 f lo m)(ho:∀t∈all,ji t=true){j:Nat}(h1:lo<=j)(h2:j<all.length):k.kf ((j:Int)+1)= .ok all[j]:=by
 unfold g_.kf
 rw[h.log.chain.read,if_pos (by omega),h.log.oP]
 have e:(((j:Int)+1-((lo:Int)+1)).toNat)=j-lo:=by omega
 have e2:((all.drop lo).map mv)[j-lo]?=some (mv all[j]):=by
  rw[List.getElem?_map,List.getElem?_drop,show lo+(j-lo)=j by omega,List.getElem?_eq_getElem h2];rfl
 rw[e,e2]
 exact Pd (ho _ (List.getElem_mem h2))
end Go.Proofs.YtfenmffiidchcaaGreat
