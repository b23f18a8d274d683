/-
  Texts of the proof, joined: SlIns, IdxS, WalS, WalS2, TabS, Sl4K, TabF, TxnS, TxnE, TxnDec, ImgS, ImgD, RLogM, WalS3, WalS4, WalS5, WalS6, WalS7, WalS8, WalS9, WalSA, WalSB, SrcS, SrcS2, FoldS, RefFF, Law06, SrcQ.
-/
import Derived.Test.YtfenmffiidchcaaGreatJ8
import Derived.Test.YtfenmffiidchcaaGreatQVcI
import Derived.Lib.Overlaps
import Derived.Lib.AppendZerosOnto
import Derived.Test.YtfenmffiidchcaaGreatQVcG
import Derived.Test.YtfenmffiidchcaaGreatQVcL
import Derived.Test.YtfenmffiidchcaaGreatQTab
import Derived.Test.YtfenmffiidchcaaGreatQVcX
import Derived.Test.YtfenmffiidchcaaGreatQVcA
import Derived.Test.YtfenmffiidchcaaGreatQVcC
import Derived.Test.YtfenmffiidchcaaGreatQVcF
namespace Go.Proofs.YtfenmffiidchcaaGreat
set_option linter.unusedVariables false
set_option maxRecDepth 100000
open Go.RowKit
def nQ(b:Nat)(cs:List Value)(t:TypeId):zC:=λh=>h=bw.one b (.cells cs.toArray t (0,0))
section
variable {W w:World} {l l':List Chunk} {P:Program}
theorem nQ.uP{b:Nat}{cs:List Value}{t:TypeId}(h:SL W l w)(m:Has (.ob (nQ b cs t)) l):w.heap[b]?=some (.cells cs.toArray t (0,0)):=by
 obtain⟨k,s,x⟩:=h.out
 obtain⟨h1,e,le⟩:=m.heap s
 have e:h1=bw.one b (.cells cs.toArray t (0,0)):=e
 subst e
 exact x b _ (le b _ (by simp[bw.one]))
theorem nQ.cell{b o:Nat}{cs:List Value}{t:TypeId}{v:Value}(h:SL W l w)(m:Has (.ob (nQ b cs t)) l)(hv:cs[o]?=some v):w.cell? ⟨b,o,none⟩=some v:=by
 simp[World.cell?,nQ.uP h m,hv]
theorem bFz{z cells:List Value}{ps:List (Nat × Nat × Value)}{e:TypeId}{n:Nat}{K:Value->World->Prop}(hS:SL W l w)(hc:lx z ps=some cells)
  (h:∀b w',SL W (.ob (nQ b cells e)::l) w'->K (.slice (some ⟨b,0,none⟩) n n) w'):zm z ps e n w K:=⟨cells,hc,h _ _ (hS.alloc (c:=.ob (nQ w.heap.size cells e)) rfl)⟩
theorem YN{dT sT ty elem tt:TypeId}{b o FY Og m IK TH sz:Nat}{a:Addr}{cs cd:List Value}{K:Value->World->Prop}(hS:SL W l w)(hu:P.underlying dT=some (.slice elem))(hs:(P.info? elem).map (·.size)=some sz)
  (hm:Nat.min IK FY=m) (hl:cs.length=m*sz) (ld:∀j v,cs[j]?=some v->w.cell? (a.add j)=some v) (u:kr (.pt b cd tt) (.pt b (cd.take o++cs++cd.drop (o+cs.length)) tt) l l') (ho:o+cs.length<=cd.length) (h1:∀v∈cs,v.oneCell'=true)
  (h:∀v w',SL W l' w'->K v w'):z6 P (Builtin.copy_ #[dT,sT] ty #[.slice (some ⟨b,o,none⟩) FY Og,.slice (some a) IK TH]) w K:=by
 have xq:=run_loadCells_list (P:=P) w a cs ld
 have kG:∀j,j<cs.length->∃v,cd[o+j]?=some v:=λj hj=>⟨_,List.getElem?_eq_getElem (by omega)⟩
 have kP:=run_storeCells_cells (P:=P) b o cs 0 w (λj hj=>by obtain⟨v,hv⟩:=kG j hj;rw[Nat.add_zero,hS.cell u.has hv];rfl) (λj hj=>by obtain⟨v,hv⟩:=kG j hj;rw[Nat.add_zero];exact hS.frozen u.has hv) h1
 simp only[Nat.add_zero]at kP
 have hr:(Builtin.copy_ #[dT,sT] ty #[.slice (some ⟨b,o,none⟩) FY Og,.slice (some a) IK TH]).run P w= .ok (goInt m) (w.setCells b o cs):=by
  cases hq:P.info? elem with
  | none=>simp[hq]at hs
  | some i=>
   have hi:i.size=sz:=by simpa [hq] using hs
   simp[Builtin.copy_,run_underlying hu,Builtin.lenOf,Builtin.firstCells,sizeOf,typeInfo,hq,hi,hm,<- hl,xq,kP]
 exact⟨_,_,hr,h _ _ (SL.Uc hS u ho)⟩
theorem bF0{ty t e:TypeId}{a:Option Addr}{n c:Nat}{K:Value->Prop}(ht:P.underlying t=some (.slice e))(h:K (.int .i64 c)):kg P (Builtin.cap_ #[t] ty #[.slice a n c]) w K:=
 ⟨_,by simp[Builtin.cap_,run_underlying ht,goInt],h⟩
end
theorem Tryz.aIu:(Tryz.prog.info? 52).map (λi=>(i.zero.map (λz=>z.cells.toList),i.size,i.bytes))=some (some [.int .i64 0,.string ⟨#[]⟩],2,24):=by kernel_rfl
theorem Tryz.b94:(Tryz.prog.info? 52).map (λi=>i.zero)=some (some (.agg #[.int .i64 0,.string ⟨#[]⟩])):=by kernel_rfl
theorem bRh(w:World):(sizeOf 52).run Tryz.prog w= .ok 2 w:=by kernel_rfl
theorem Q9{W w:World}{l:List Chunk}{vb b o m vc lb cb:Nat}{cv cs:List Value}{K:Value->World->Prop}(hS:SL W l w)(h1:Has (.ob (nQ vb cv 52)) l)(h2:Has (.pt b cs 52) l)(iW:vb≠b)(nH:cs.length≠0)
  (h:K (.bool false) w):qE Tryz.prog 323 [.slice (some ⟨vb,0,none⟩) m vc,.slice (some ⟨b,o,none⟩) lb cb] w K:=by
 have e1:=nQ.uP hS h1
 obtain⟨f,hf,e2⟩:=hS.uP h2
 have hsa:w.shape? vb=some (52,cv.length):=by simp[World.shape?,e1]
 have hsb:w.shape? b=some (52,cs.length):=by simp[World.shape?,e2]
 have hz:∀x:Addr,x.block=vb->w.frozen? x=false:=λx hx=>by simp only[World.frozen?,hx,e1];simp
 have hr:=Go.Lib.run_overlaps_apart (P:=Tryz.prog) w 53 4 52 Tryz.underlying53 2 bRh ⟨vb,0,none⟩ ⟨b,o,none⟩ m vc lb cb iW 52 52 cv.length cs.length hsa hsb nH (hz _ rfl) (hz _ rfl)
 refine⟨.bool false,w,?_,h⟩
 have:=run_callFunc_extern Tryz.func323 (by kernel_rfl) (by kernel_rfl) (by kernel_rfl) (e:=Extern.SlicesOverlaps.overlaps #[53,53] #[4]) (by kernel_rfl) #[.slice (some ⟨vb,0,none⟩) m vc,.slice (some ⟨b,o,none⟩) lb cb] w
 rw[this,hr];rfl
theorem nQ.ne{W w:World}{l:List Chunk}{b vb:Nat}{cs cv:List Value}{t t':TypeId}(h:SL W (.pt b cs t::.ob (nQ vb cv t')::l) w):vb≠b:=by
 rintro rfl
 obtain⟨k,⟨h1,h2,s,⟨f,_,rfl⟩,h3,h4,s',e,r⟩,m⟩:=h.out
 have e:h3=bw.one vb (.cells cv.toArray t' (0,0)):=e
 subst e
 rcases s vb with ⟨a,_⟩|⟨a,_⟩
 ·simp[bw.one]at a
 ·rcases s' vb with ⟨c,_⟩|⟨_,c⟩
  ·simp[bw.one]at c
  ·rw[a]at c;simp[bw.one]at c
theorem Iv(A E x:List Value):(A++E).take A.length++x++(A++E).drop (A.length+x.length)=A++x++E.drop x.length:=by
 rw[List.take_left,<- List.drop_drop,List.drop_left]
theorem a_q(A E D:List Value)(k:Nat)(hk:k<=E.length):(A++E).take (A.length+k)++D++(A++E).drop (A.length+k+D.length)=A++(E.take k++D++E.drop (k+D.length)):=by
 rw[List.take_length_add_append,Nat.add_assoc,<- List.drop_drop (l:=A++E),List.drop_left];simp
theorem Y6(v:Value)(n i vb:Nat)(cells x:List Value)(hi:i<=n)(hx:x.length=2)(kj:∀v∈cells,v.oneCell'=true)(nA:∀v∈x,v.oneCell'=true)(hn:n<=1000000):
  SP 278 [v,.int .i64 (i:Int),.slice (some ⟨vb,0,none⟩) 1 1] [.ob (a_ v 52 2 n cells),.ob (nQ vb x 52)] (λu post=>post=[.ob (a_ u 52 2 (n+1) (cells.take (i*2)++x++cells.drop (i*2)))]):=by
 intro W F w hS;apply b6v;delta LO aF c_ ai cI;(try simp only[app]at hS)
 have ld:∀{l:List Chunk} {w:World},SL W l w->Has (.ob (nQ vb x 52)) l->∀j u,x[j]?=some u->w.cell? ((⟨vb,0,none⟩:Addr).add j)=some u:=λh m j u e=>by
  rw[Addr.add_lit,Nat.zero_add];exact nQ.cell h m e
 have nI:i=n->zu 2 24 [.int .i64 0,.string ⟨#[]⟩] 52 v (.slice (some ⟨vb,0,none⟩) 1 1) w λu w=>∃post,(post=[.ob (a_ u 52 2 (n+1) (cells.take (i*2)++x++cells.drop (i*2)))])/\SL W (app post F) w:=λe=>by
  subst e
  obtain⟨_,_,_,hlen,_⟩:=a_.at hS Xh
  refine zx (n:=i) (m:=1) hS Xr ⟨rfl,hx,ld hS Xh⟩ (by omega) rfl nA (by omega) (by omega) ?_
  clear hS;intro u w hS
  rw[List.take_of_length_le (by omega),List.drop_eq_nil_of_le (by omega),List.append_nil]
  exact⟨_,rfl,aR hS⟩
 rcases a_.open hS with ⟨⟨a,rfl⟩,rfl,rfl,_⟩|⟨b,cap,rest,rfl,vY,hlen,nc,BW⟩
 ·refine⟨a,0,0,i,0,0,rfl,rfl,rfl,⟨_,rfl⟩,hi,Nat.le_refl _,Nat.le_refl _,?_⟩
  refine yo ?_
  refine Gp ?_
  refine za (λh=>by omega) (λ_=>?_)
  refine yo ?_
  refine Gp ?_
  exact za (λh=>nI (by omega)) (λh=>by omega)
 refine⟨_,n,cap,i,n,cap,rfl,rfl,rfl,⟨_,rfl⟩,hi,vY,Nat.le_refl _,?_⟩
 refine yo ?_
 refine Gp ?_
 refine za (λh=>by omega) (λ_=>?_)
 refine yo ?_
 refine Gp ?_
 refine za (λh=>nI (by omega)) (λiW=>?_)
 clear nI hS
 have hS:=BW
 clear BW
 have oZ:i<n:=by omega
 have hvb:=nQ.ne hS
 refine Gp ?_
 refine bF0 Tryz.underlying53 ?_
 refine Gp ?_
 obtain⟨A,hA⟩:∃A,A=cells.take (i*2):=⟨_,rfl⟩
 obtain⟨D,hD⟩:∃D,D=cells.drop (i*2):=⟨_,rfl⟩
 have DP:cells=A++D:=by rw[hA,hD,List.take_append_drop]
 have uh:A.length=i*2:=by rw[hA,List.length_take];omega
 have PD:D.length=(n-i)*2:=by rw[hD,List.length_drop];omega
 have PC:∀v∈D,v.oneCell'=true:=λv hv=>kj v (by rw[DP];exact List.mem_append_right _ hv)
 rw[<- hA,<- hD]
 have nU:(Tryz.prog.info? 52).map (·.size)=some 2:=by kernel_rfl
 refine za (λhg=>?_) (λhg=>?_)
 ·
  have P5:cap=n:=by omega
  subst P5
  refine⟨_,cap,cap,0,i,cap,rfl,rfl,⟨_,rfl⟩,rfl,by omega,by omega,by omega,?_⟩
  rw[if_neg (show ¬cap=0 by omega)]
  simp only[Option.map_some,Addr.add_lit,Nat.zero_mul,Nat.add_zero,Nat.sub_zero]
  refine Gp ?_
  rw[show (((cap+1:Nat):Int)-(i:Int))=((cap+1-i:Nat):Int) by omega]
  cases hq:Tryz.prog.info? 52 with
  | none=>rw[hq]at nU;cases nU
  | some ti=>
   have hI:=Tryz.aIu
   rw[hq]at hI
   have hZ:=Tryz.b94
   rw[hq]at hZ
   simp only[Option.map_some,Option.some.injEq,Prod.mk.injEq]at hI hZ
   obtain⟨_,h2,h3⟩:=hI
   have hold:(Builtin.firstCells ti.size i (.slice (some ⟨b,0,none⟩) i cap)).run Tryz.prog w.drew= .ok A.toArray w.drew:=by
    have hl:=run_loadCells_list (P:=Tryz.prog) w.drew ⟨b,0,none⟩ A λj u hj=>by
     rw[Addr.add_lit,Nat.zero_add]
     refine hS.drew.cell .hd ?_
     rw[DP,List.append_assoc,List.getElem?_append_left (List.getElem?_eq_some_iff.1 hj).1];exact hj
    rw[uh]at hl
    rw[h2]
    simp[Builtin.firstCells,hl]
   have o7:Builtin.nextslicecap (i+(cap+1-i)) cap*ti.bytes<=281474976710656:=growslice_fits (by omega) (by rw[h3];omega)
   have Ea:=Go.Lib.run_append_grow_zeros (P:=Tryz.prog) w 53 3 53 52 ti _ .i64 .i64 Tryz.underlying53 Tryz.underlying3 hq hZ (some ⟨b,0,none⟩) i cap A hold (cap+1-i) (by omega) (by omega) (by omega) (by omega) (by rw[h3];omega) o7
   refine⟨_,_,Ea,?_⟩
   generalize Y_:grownCap w (i+(cap+1-i)) cap 52=cp
   have sE:cap+1<=cp:=by
    have:=grownCap_ge w (i+(cap+1-i)) cap 52
    omega
   have hz:∀k,Builtin.zeroCells (Value.cells (.agg #[.int .i64 0,.string ⟨#[]⟩])) k=(b_ [.int .i64 0,.string ⟨#[]⟩] k).toArray:=λk=>by
    rw[<- Jj (Value.cells (.agg #[.int .i64 0,.string ⟨#[]⟩])) [.int .i64 0,.string ⟨#[]⟩] rfl k,Array.toArray_toList]
   rw[hz,hz]
   obtain⟨E,hE⟩:∃E:List Value,E=b_ [.int .i64 0,.string ⟨#[]⟩] (cap+1-i)++b_ [.int .i64 0,.string ⟨#[]⟩] (cp-(i+(cap+1-i))):=⟨_,rfl⟩
   have XO:E.length=(cp-i)*2:=by rw[hE,List.length_append,nO,nO];simp;omega
   have e2:A.toArray++(b_ [.int .i64 0,.string ⟨#[]⟩] (cap+1-i)).toArray++(b_ [.int .i64 0,.string ⟨#[]⟩] (cp-(i+(cap+1-i)))).toArray=(A++E).toArray:=by rw[hE];simp
   rw[e2]
   have hS:=SL.new (cs:=A++E) (t:=52) hS.drew
   clear Ea hold hz e2 hE
   have xy:w.heap.size=w.drew.heap.size:=rfl
   rw[xy]
   generalize w.drew.heap.size=nb at *
   generalize (w.drew.alloc (.cells (A++E).toArray 52))=w at *
   have ei:i+(cap+1-i)=cap+1:=by omega
   rw[ei]
   refine⟨_,cap+1,cp,i,cap+1,cp,rfl,rfl,rfl,⟨_,rfl⟩,by omega,sE,Nat.le_refl _,?_⟩
   rw[if_neg (show ¬cp=i by omega)]
   simp only[Option.map_some,Addr.add_lit,Nat.zero_add]
   have e3:=Iv A E x
   rw[uh]at e3
   refine YN (tt:=52) (l':=.pt nb (A++x++E.drop x.length) 52::.pt b (cells++rest) 52::.ob (nQ vb x 52)::F) hS Tryz.underlying53 nU (m:=1) (sz:=2) (Nat.min_eq_left (by omega)) (by omega) (ld hS Xh) (by rw[e3];exact kr.hd) (by rw[List.length_append];omega) nA ?_
   clear hS e3
   intro _ w hS
   refine Gn λw hS=>?_
   refine⟨_,cap+1,cp,i+1,cap+1,cp,rfl,rfl,rfl,⟨_,rfl⟩,by omega,sE,Nat.le_refl _,?_⟩
   rw[if_neg (show ¬cp=i+1 by omega)]
   refine⟨_,cap,cap,i,cap,cap,rfl,rfl,rfl,⟨_,rfl⟩,by omega,Nat.le_refl _,Nat.le_refl _,?_⟩
   rw[if_neg (show ¬cap=i by omega)]
   simp only[Option.map_some,Addr.add_lit,Nat.zero_add]
   have e4:=Iv (A++x) (E.drop x.length) D
   have e5:(A++x).length=(i+1)*2:=by rw[List.length_append];omega
   rw[e5]at e4
   have PE:(E.drop x.length).length=E.length-2:=by rw[List.length_drop,hx]
   refine YN (tt:=52) (l':=.pt nb (A++x++D++(E.drop x.length).drop D.length) 52::.pt b (cells++rest) 52::.ob (nQ vb x 52)::F) hS Tryz.underlying53 nU (m:=cap-i) (sz:=2) (Nat.min_eq_left (by omega)) PD (λj u hj=>?_) (by rw[e4];exact kr.hd) (by rw[List.length_append,e5,PE];omega) PC ?_
   ·rw[Addr.add_lit]
    refine hS.cell (.tl .hd) ?_
    rw[DP,List.append_assoc,List.getElem?_append_right (by omega),uh,Nat.add_sub_cancel_left,List.getElem?_append_left (List.getElem?_eq_some_iff.1 hj).1];exact hj
   clear hS e4
   intro _ w hS
   refine⟨_,rfl,SL.b4 (a_.mk (sz:=2) (n:=cap+1) (cap:=cp) (cells:=A++x++D) (rest:=(E.drop x.length).drop D.length) sE ?_ ?_ hS) Xi⟩
   ·rw[List.length_append,e5];omega
   ·rw[List.length_drop,PE];omega
 ·
  have aw2:n+1<=cap:=by omega
  clear hg
  have D':2<=rest.length:=by rw[nc];omega
  refine Gp ?_
  refine⟨_,n,cap,0,n+1,cap,rfl,rfl,⟨_,rfl⟩,rfl,by omega,by omega,by omega,?_⟩
  rw[if_neg (show ¬cap=0 by omega)]
  simp only[Option.map_some,Addr.add_lit,Nat.zero_mul,Nat.add_zero,Nat.sub_zero]
  refine Gp ?_
  refine⟨_,n+1,cap,i+1,n+1,cap,rfl,rfl,rfl,⟨_,rfl⟩,by omega,by omega,by omega,?_⟩
  rw[if_neg (show ¬cap=i+1 by omega)]
  simp only[Option.map_some,Addr.add_lit,Nat.zero_add]
  refine Q9 hS Xh Xh hvb (by rw[List.length_append];omega) ?_
  refine⟨_,rfl,?_⟩
  refine zw ?_
  refine Gn λw hS=>?_
  refine⟨_,n+1,cap,i+1,n+1,cap,rfl,rfl,rfl,⟨_,rfl⟩,by omega,by omega,by omega,?_⟩
  rw[if_neg (show ¬cap=i+1 by omega)]
  refine⟨_,n+1,cap,i,n+1,cap,rfl,rfl,rfl,⟨_,rfl⟩,by omega,by omega,by omega,?_⟩
  rw[if_neg (show ¬cap=i by omega)]
  simp only[Option.map_some,Addr.add_lit,Nat.zero_add]
  obtain⟨E,hE⟩:∃E,E=D++rest:=⟨_,rfl⟩
  have XO:E.length=(cap-i)*2:=by rw[hE,List.length_append];omega
  have XM:cells++rest=A++E:=by rw[DP,hE,List.append_assoc]
  rw[XM]at hS
  have e3:=a_q A E D 2 (by omega)
  rw[uh,show i*2+2=(i+1)*2 by omega]at e3
  refine YN (tt:=52) (l':=.pt b (A++(E.take 2++D++E.drop (2+D.length))) 52::.ob (nQ vb x 52)::F) hS Tryz.underlying53 nU (m:=n-i) (sz:=2) (by simp only[Nat.min_def];split<;>omega) PD (λj u hj=>?_) (by rw[e3];exact kr.hd) (by rw[List.length_append];omega) PC ?_
  ·rw[Addr.add_lit]
   refine hS.cell .hd ?_
   rw[List.getElem?_append_right (by omega),uh,Nat.add_sub_cancel_left,hE,List.getElem?_append_left (List.getElem?_eq_some_iff.1 hj).1];exact hj
  clear hS e3
  intro _ w hS
  refine⟨_,n+1,cap,i,n+1,cap,rfl,rfl,rfl,⟨_,rfl⟩,by omega,by omega,by omega,?_⟩
  rw[if_neg (show ¬cap=i by omega)]
  simp only[Option.map_some,Addr.add_lit,Nat.zero_add]
  have e4:=Iv A (E.take 2++D++E.drop (2+D.length)) x
  rw[uh,hx]at e4
  have AP:(E.take 2).length=2:=by rw[List.length_take];omega
  have e5:(E.take 2++D++E.drop (2+D.length)).drop 2=D++E.drop (2+D.length):=by
   rw[List.append_assoc]
   have:=List.drop_left (l₁:=E.take 2) (l₂:=D++E.drop (2+D.length))
   rwa [AP]at this
  rw[e5]at e4
  refine YN (tt:=52) (l':=.pt b (A++x++(D++E.drop (2+D.length))) 52::.ob (nQ vb x 52)::F) hS Tryz.underlying53 nU (m:=1) (sz:=2) (Nat.min_eq_left (by omega)) (by omega) (ld hS Xh) (by rw[hx,e4];exact kr.hd) (by rw[List.length_append,List.length_append,List.length_append,AP,List.length_drop];omega) nA ?_
  clear hS e4 e5
  intro _ w hS
  rw[<- List.append_assoc (A++x)]at hS
  refine⟨_,rfl,SL.b4 (a_.mk (sz:=2) (n:=n+1) (cap:=cap) (cells:=A++x++D) (rest:=E.drop (2+D.length)) aw2 ?_ ?_ hS) Xi⟩
  ·rw[List.length_append,List.length_append];omega
  ·rw[List.length_drop];omega
abbrev dF(b:Nat):Value:=.pointer (some ⟨b,0,none⟩)
theorem bI0{W w:World}{l:List Chunk}{α:Type}{enc:α->List Value}{v u:Value}{t:TypeId}{sz j i:Nat}{k:IntKind}{xs:List α}{y:α}{K:World->Prop}(hS:SL W (.ob (a_ v t sz xs.length (xs.map enc).flatten)::l) w)(hn:∀x,(enc x).length=sz)
  (hj:j<xs.length) (hi:i<sz) (hy:(enc xs[j]).set i u=enc y) (h1:u.oneCell'=true) (hK:∀w',SL W (.ob (a_ v t sz (xs.set j y).length ((xs.set j y).map enc).flatten)::l) w'->K w'):ze sz v (.int k (j:Int)) λp=>zr i p λq=>jG q u w K:=by
 rcases a_.open hS with ⟨_,h0,_⟩|⟨b,cap,rest,rfl,hc,hlen,nc,hS⟩
 ·omega
 have ix:j*sz+i<xs.length*sz:=by
  have:(j+1)*sz<=xs.length*sz:=Nat.mul_le_mul_right _ hj
  rw[Nat.add_mul]at this;omega
 refine zB hj (zR ?_)
 rw[Nat.zero_add]
 refine Zb hS .hd (List.getElem?_eq_getElem (by rw[List.length_append];omega)) h1 λw' hS=>hK w' ?_
 rw[List.set_append_left _ _ (by omega),Gl hn xs j i hj y u hi hy]at hS
 have hl:(xs.set j y).length=xs.length:=List.length_set
 rw[hl]
 refine a_.mk hc ?_ nc hS
 rw[mH hn,hl]
theorem bI3{W w:World}{l:List Chunk}{v:Value}{t:TypeId}{sz n k:Nat}{kk:IntKind}{cells:List Value}{K:Value->Prop}(h:SL W l w)(mm:Has (.ob (a_ v t sz n cells)) l)(hk:k<=n)
  (hK:∀A c,n-k<=c->(∀m c' w' l',m<=n-k->SL W l' w'->Has (.ob (a_ v t sz n cells)) l'->mN w' sz (.slice A m c') m ((cells.drop (k*sz)).take (m*sz)))->K (.slice A (n-k) c)):iL sz v (some (.int kk (k:Int))) none none K:=by
 obtain⟨a,cap,rfl,hl,_⟩:=a_.at h mm
 have vY:n<=cap:=by
  obtain⟨l2,r⟩:=mm.rem
  rcases a_.open (h.perm r.perm) with ⟨⟨a',e⟩,rfl,rfl,_⟩|⟨b,uS,rest,e,hc,_⟩
  ·cases e;omega
  ·cases e;exact hc
 refine⟨a,n,cap,k,n,cap,rfl,rfl,rfl,⟨kk,rfl⟩,hk,vY,Nat.le_refl _,hK _ _ (by omega) λm c' w' l' hm h' m'=>?_⟩
 obtain⟨a',uS,e,_,hx⟩:=a_.at h' m'
 cases e
 have tx:((cells.drop (k*sz)).take (m*sz)).length=m*sz:=by
  have:(k+m)*sz<=n*sz:=Nat.mul_le_mul_right _ (by omega)
  rw[Nat.add_mul]at this
  rw[List.length_take,List.length_drop,hl];omega
 rcases Nat.eq_zero_or_pos m with rfl|Rv
 ·have:(cells.drop (k*sz)).take (0*sz)=[]:=by simp
  rw[this]
  generalize (if cap=k then a else a.map (·.add (k*sz)))=A
  cases A with
  | none=>exact⟨rfl,rfl⟩
  | some p=>exact⟨rfl,by simp,λj v e=>by simp at e⟩
 ·obtain⟨b,rfl,h3⟩:=hx 0 (by omega)
  rw[if_neg (show ¬cap=k by omega)]
  refine⟨rfl,tx,λj v e=>?_⟩
  show w'.cell? (((⟨b,0,none⟩:Addr).add (k*sz)).add j)=some v
  rw[Addr.add_lit,Addr.add_lit]
  refine h3 _ v ?_
  rw[List.getElem?_take]at e
  split at e
  ·rw[List.getElem?_drop]at e
   rw[Nat.zero_add];exact e
  ·cases e
abbrev jL(v:Value)(l:List Row):Chunk:=.ob (a_ v 52 2 l.length (l.map iq).flatten)
theorem Dy{z v:Value}(h:v.oneCell'=true):lx (b_ [z] 1) [(0,1,v)]=some [v]:=by simp[lx,b_,vq h]
theorem uV(r:Row):∀v∈iq r,v.oneCell'=true:=by simp[iq,Value.oneCell']
theorem F_(k:Int)(v:ByteArray):iq ⟨k,v⟩=[.int .i64 k,.string v]:=rfl
def iT(x:Nat × List Row):zC:=mX λv:Value=>zQ True [.pt x.1 [v] 250,jL v x.2]
theorem iT.iff{W w:World}{b:Nat}{C:List Row}{l:List Chunk}:SL W (.ob (iT (b,C))::l) w↔∃v,SL W (.pt b [v] 250::jL v C::l) w:=by
 unfold iT
 simp only[SL.ex,SL.fact,List.cons_append,List.nil_append,true_and]
theorem iT.put{W w:World}{b:Nat}{C:List Row}{v:Value}{l F:List Chunk}(hS:SL W l w)(p:ky [.pt b [v] 250,jL v C] l F):SL W (.ob (iT (b,C))::F) w:=iT.iff.2 ⟨v,hS.pick p⟩
theorem qa(a:Int):SP 343 [.int .i64 a] [] (dW (.bool false) []):=by
 intro W F w hS;apply b73;unfold Mw;(try simp only[app]at hS)
 refine Gp ?_
 rw[show decide (a≠a)=false by simp]
 (exact eF hS)
def rP(a b:Int):Int:=if a<b then -1 else if b<a then 1 else 0
theorem Od{a b:Int}:rP a b<0↔a<b:=by unfold rP;split<;>(try split)<;>omega
theorem V_{a b:Int}:rP a b=0↔a=b:=by unfold rP;split<;>(try split)<;>omega
theorem Wa(a b:Int):SP 299 [.int .i64 a,.int .i64 b] [] (dW (.int .i64 (rP a b)) []):=by
 intro W F w hS;apply b7e;delta Mb aF ai;(try simp only[app]at hS)
 refine Cg (qa a) λw hS=>?_
 refine Cg (qa b) λw hS=>?_
 refine za (λh=>?_) (λh=>?_)
 ·rw[show rP a b = -1 by unfold rP;rw[if_pos h]]
  (exact eF hS)
 refine bW (λh2=>?_) (λh2=>?_)
 ·rw[show rP a b=1 by unfold rP;rw[if_neg h,if_pos h2]]
  (exact eF hS)
 ·rw[show rP a b=0 by unfold rP;rw[if_neg h,if_neg h2]]
  (exact eF hS)
theorem Yf(r:Row)(key:Int):SP 298 [agg (iq r),.int .i64 key] [] (dW (.int .i64 (rP r.key key)) []):=by
 obtain⟨rk,rv⟩:=r
 intro W F w hS;apply b7d;delta Ma a7;(try simp only[app]at hS)
 refine zK hS λxb w hS=>?_
 rw[F_]at hS
 refine Gp ?_
 refine Cg (Wa rk key) λw hS=>?_
 (exact eF hS)
theorem bIg{i j:Nat}{K:Value->Prop}(h:i+j<=1000000000)(k:K (.int .i64 (((i+j) / 2:Nat):Int))):zc .add (.int .i64 i) (.int .i64 j) λa=>zG .u64 a λb=>zc .shr b (.int .u64 1) λc=>zG .i64 c K:=by
 refine ye (by omega) (zL ?_)
 rw[IntKind.wrap_u64,show ((i+j:Nat):Int) % 18446744073709551616=((i+j:Nat):Int) by omega]
 have e:((i+j:Nat):Int).fdiv (2 ^ (min (1:Int).toNat IntKind.u64.bits))=(((i+j) / 2:Nat):Int):=by
  rw[show (min (1:Int).toNat IntKind.u64.bits)=1 by decide,Int.fdiv_eq_ediv_of_nonneg _ (by decide)]
  omega
 refine⟨_,by simp only[mr];rw[if_neg (by decide)],?_⟩
 rw[e]
 exact yn (by omega) k
theorem VK(v:Value)(C:List Row)(key:Int)(hs:ke C)(hn:C.length<=1000000):
  SP 297 [v,.int .i64 key,.func (.func 298) #[] #[]] [jL v C] (λu post=>∃i,AtR C key i/\u= .tuple #[.int .i64 (i:Nat),.bool (nK C key i)]/\post=[jL v C]):=by
 intro W F w hS;apply b7c;delta L_ aF ai;(try simp only[app]at hS)
 refine zt hS Xh ?_
 refine⟨λus w=>∃i j:Nat,us=[.int .i64 i,.int .i64 j]/\i<=j/\j<=C.length/\(∀k (h:k<C.length),k<i->C[k].key<key)/\(∀h:j<C.length,key<=C[j].key)/\SL W (jL v C::F) w,
  λus _=>match us with|[.int _ i,.int _ j]=>(j-i).toNat|_=>0,⟨0,C.length,rfl,by omega,by omega,λk h hk=>by omega,λh=>by omega,hS⟩,?_⟩
 clear hS
 rintro v9 v10 w ⟨i,j,cW,vg,hj,Cl,DY,hS⟩
 cases cW
 refine TN ?_
 refine za (λh=>?_) (λh=>?_)
 ·refine bIg (by omega) ?_
  generalize hm:(i+j) / 2=m
  have AJ:i<=m/\m<j:=by omega
  clear hm
  have uw:m<C.length:=by omega
  refine zV hS Xh jY (x:=C[m]) (by simp[uw]) uw ?_
  refine⟨298,#[],#[],rfl,by decide,?_⟩
  refine Cg (Yf C[m] key) λw hS=>?_
  refine za (λh1=>?_) (λh1=>?_)
  ·have h1:=Od.1 h1
   refine Gp ?_
   refine⟨⟨m+1,j,rfl,by omega,hj,λk hk hkm=>?_,DY,hS⟩,by dsimp only;omega⟩
   rcases Nat.lt_or_ge k m with h2|h2
   ·have:=List.pairwise_iff_getElem.1 hs k m hk uw h2
    omega
   ·obtain rfl:k=m:=by omega
    exact h1
  ·have h1:¬C[m].key<key:=λh2=>h1 (Od.2 h2)
   exact⟨⟨i,m,rfl,AJ.1,by omega,Cl,λ_=>by omega,hS⟩,by dsimp only;omega⟩
 ·obtain rfl:i=j:=by omega
  have hA:AtR C key i:=⟨hj,Cl,DY⟩
  refine bW (λh1=>?_) (λh1=>?_)
  ·have b3:i<C.length:=by omega
   refine zV hS Xh jY (x:=C[i]) (by simp[b3]) b3 ?_
   refine⟨298,#[],#[],rfl,by decide,?_⟩
   refine Cg (Yf C[i] key) λw hS=>?_
   have e:decide (rP C[i].key key=0)=nK C key i:=by
    unfold nK
    rw[decide_eq_decide,V_]
    exact⟨λh=>⟨b3,h⟩,λ⟨_,h⟩=>h⟩
   rw[e]
   exact⟨_,⟨i,hA,rfl,rfl⟩,hS⟩
  ·have e:nK C key i=false:=decide_eq_false λ⟨h,_⟩=>h1 (by omega)
   rw[<- e]
   exact⟨_,⟨i,hA,rfl,rfl⟩,hS⟩
theorem Y1(v:Value)(n i:Nat)(cells:List Value)(hi:i<n)(kj:∀v∈cells,v.oneCell'=true)(hb:n*24<=140737488355328)(hn:n<=140737488355328):
  SP 327 [v,.int .i64 (i:Int),.int .i64 ((i+1:Nat):Int)] [.ob (a_ v 52 2 n cells)] (λu post=>post=[.ob (a_ u 52 2 (n-1) (cells.take (i*2)++cells.drop ((i+1)*2)))]):=
 Oz (z:=[.int .i64 0,.string ⟨#[]⟩]) (zv:=.agg #[.int .i64 0,.string ⟨#[]⟩]) (λv0 v1 v2 w R h=>b7w v0 v1 v2 w R h) Tryz.underlying53 (λw=>by kernel_rfl) rfl rfl (by simp[Value.oneCell']) v n i cells hi kj hb hn
theorem V9(v:Value)(C:List Row)(hn:C.length<=1000000):SP 170 [v] [jL v C] (λu post=>post=[jL u C,jL v C]):=
 V' (λv0 w R h=>Jc v0 w R h) rfl (by decide) (pT uV C) (mH jY C) (by omega) (by omega)
section
variable (b:Nat) (C:List Row) (key:Int) (hs:ke C) (hn:C.length<=1000000)
include hs hn
theorem yN(v:Value):SP 240 [dF b,.int .i64 key] [.pt b [v] 250,jL v C] (λu post=>∃i,AtR C key i/\u= .tuple #[.int .i64 (i:Nat),.bool (nK C key i)]/\post=[.pt b [v] 250,jL v C]):=by
 intro W F w hS;apply b57;delta Lp bF;(try simp only[app]at hS)
 refine Gp ?_
 refine Cc (VK v C key hs hn) ?_;clear hS
 rintro u post ⟨i,hA,rfl,rfl⟩ w hS
 (try simp only[app]at hS);refine Gp ?_
 exact⟨_,⟨i,hA,rfl,rfl⟩,aR hS⟩
theorem Yj(val:ByteArray):SP 217 [dF b,.int .i64 key,.string val] [.ob (iT (b,C))] (λu post=>(∃q,u= .bool q)/\post=[.ob (iT (b,km C ⟨key,val⟩))]):=by
 intro W F w hS;apply b5l;delta K4 bF fI b7 ai cI;(try simp only[app]at hS)
 obtain⟨v,hS⟩:=iT.iff.1 hS
 refine Cc (yN b C key hs hn v) ?_;clear hS
 rintro u post ⟨i,hA,rfl,rfl⟩ w hS
 (try simp only[app]at hS);refine Gp ?_
 have hi:=hA.ins val
 have hle:=hA.le
 cases hk:nK C key i with
 | true=>
  rw[hk,if_pos rfl]at hi
  obtain⟨b3,_⟩:=of_decide_eq_true hk
  refine zw ?_
  refine Gp ?_
  refine bI0 (enc:=iq) (y:=⟨key,val⟩) (Has.front hS (l2:=.pt b [v] 250::F) Xr) jY b3 (by decide) ?_ rfl λw hS=>?_
  ·obtain⟨_,e⟩:=of_decide_eq_true hk
   rw[<- e];rfl
  rw[hi]
  exact⟨_,⟨⟨_,rfl⟩,rfl⟩,iT.iff.2 ⟨v,aR hS⟩⟩
 | false=>
  rw[hk,if_neg (by decide)]at hi
  refine zq ?_
  (repeat refine Gp ?_)
  refine bFz hS (O6 (cs:=iq ⟨key,val⟩) rfl rfl) λvb w hS=>?_
  refine Cc (Y6 v C.length i vb (C.map iq).flatten (iq ⟨key,val⟩) hle rfl (pT uV _) (uV _) hn) ?_;clear hS
  rintro u post rfl w hS
  try simp only[app]at hS
  have h1:=a_.one hS
  refine Gn λw hS=>?_
  have e:((C.map iq).flatten.take (i*2)++iq ⟨key,val⟩++(C.map iq).flatten.drop (i*2))=((km C ⟨key,val⟩).map iq).flatten:=by
   rw[hi,sC jY,rT jY];simp
  have hl:C.length+1=(km C ⟨key,val⟩).length:=by rw[hi];simp;omega
  rw[e,hl]at hS
  exact⟨_,⟨⟨_,rfl⟩,rfl⟩,iT.iff.2 ⟨u,aR hS⟩⟩
theorem QY:SP 283 [dF b,.int .i64 key] [.ob (iT (b,C))] (λu post=>(∃q,u= .bool q)/\post=[.ob (iT (b,lS C key))]):=by
 intro W F w hS;apply b61;delta LV bF fI ai;(try simp only[app]at hS)
 obtain⟨v,hS⟩:=iT.iff.1 hS
 refine Cc (yN b C key hs hn v) ?_;clear hS
 rintro u post ⟨i,hA,rfl,rfl⟩ w hS
 (try simp only[app]at hS);refine Gp ?_
 have hi:=hA.del hs
 have hle:=hA.le
 cases hk:nK C key i with
 | true=>
  rw[hk,if_pos rfl]at hi
  obtain⟨b3,_⟩:=of_decide_eq_true hk
  refine zw ?_
  refine Gp ?_
  refine Cc (Y1 v C.length i (C.map iq).flatten b3 (pT uV _) (by omega) (by omega)) ?_;clear hS
  rintro u post rfl w hS
  try simp only[app]at hS
  have h1:=a_.one hS
  refine Gn λw hS=>?_
  have e:((C.map iq).flatten.take (i*2)++(C.map iq).flatten.drop ((i+1)*2))=((lS C key).map iq).flatten:=by
   rw[hi,sC jY,rT jY];simp
  have hl:C.length-1=(lS C key).length:=by rw[hi,List.length_append,List.length_take,List.length_drop];omega
  rw[e,hl]at hS
  exact⟨_,⟨⟨_,rfl⟩,rfl⟩,iT.iff.2 ⟨u,aR hS⟩⟩
 | false=>
  rw[hk,if_neg (by decide)]at hi
  refine zq ?_
  rw[hi]
  exact⟨_,⟨⟨_,rfl⟩,rfl⟩,iT.iff.2 ⟨v,aR hS⟩⟩
def Pg(o:Option ByteArray):Value:=.tuple #[.string (o.getD emp),.bool o.isSome]
theorem QZ:SP 224 [dF b,.int .i64 key] [.ob (iT (b,C))] (dW (Pg (jC C key)) [.ob (iT (b,C))]):=by
 intro W F w hS;apply b5t;delta Lb bF a7 c_;(try simp only[app]at hS)
 obtain⟨v,hS⟩:=iT.iff.1 hS
 refine Cc (yN b C key hs hn v) ?_;clear hS
 rintro u post ⟨i,hA,rfl,rfl⟩ w hS
 (try simp only[app]at hS);refine Gp ?_
 obtain⟨B9,G0⟩:=hA.get hs
 cases hk:nK C key i with
 | true=>
  obtain⟨b3,e⟩:=of_decide_eq_true hk
  refine zq ?_
  refine Gp ?_
  refine zy hS Xh jY (x:=C[i]) (by simp[b3]) b3 (i:=1) rfl ?_
  rw[G0 b3 e]
  exact⟨_,⟨rfl,rfl⟩,iT.iff.2 ⟨v,aR hS⟩⟩
 | false=>
  refine zw ?_
  have e:jC C key=none:=by
   rw[hk]at B9
   cases hg:jC C key with
   | none=>rfl
   | some x=>rw[hg]at B9;cases B9
  rw[e]
  exact⟨_,⟨rfl,rfl⟩,iT.iff.2 ⟨v,aR hS⟩⟩
theorem Y4(n:Int)(h1 : -1000000<=n)(h2:n<=9000000000000000000):SP 171 [dF b,.int .i64 key,.int .i64 n] [.ob (iT (b,C))] (λu post=>post=[jL u (lK C key n),.ob (iT (b,C))]):=by
 intro W F w hS;apply b4m;delta Ku bF ai;(try simp only[app]at hS)
 obtain⟨v,hS⟩:=iT.iff.1 hS
 refine Cc (yN b C key hs hn v) ?_;clear hS
 rintro u post ⟨i,hA,rfl,rfl⟩ w hS
 (try simp only[app]at hS);refine Gp ?_
 have ha:=hA.after hs n
 have hle:=hA.le
 obtain⟨k,hk⟩:∃k,k=if nK C key i=true then i+1 else i:=⟨_,rfl⟩
 rw[<- hk]at ha
 have lV:k<=C.length:=by
  rw[hk];split
  ·rename_i h
   obtain⟨b3,_⟩:=of_decide_eq_true h
   omega
  ·exact hle
 refine⟨λus w=>us=[.int .i64 (k:Nat)]/\SL W (.pt b [v] 250::jL v C::F) w,?_,?_⟩
 ·cases hq:nK C key i with
  | true=>
   refine zw ?_
   refine Gp ?_
   exact⟨by rw[hk,hq,if_pos rfl],aR hS⟩
  | false=>
   refine zq ?_
   exact⟨by rw[hk,hq,if_neg (by decide)],aR hS⟩
 clear hS
 rintro v7 w ⟨cW,hS⟩
 cases cW
 refine Gp ?_
 refine bI3 hS Xh lV λA c hc ld=>?_
 refine Gp ?_
 obtain⟨m,hm⟩:∃m,m=min n.toNat (C.length-k):=⟨_,rfl⟩
 have em:max (min n ((C.length-k:Nat):Int)) 0=((m:Nat):Int):=by omega
 rw[em]
 refine⟨A,C.length-k,c,0,m,c,rfl,rfl,⟨_,rfl⟩,rfl,Nat.zero_le _,by omega,Nat.le_refl _,?_⟩
 have eA:(if c=0 then A else A.map (·.add (0*2)))=A:=by
  split
  ·rfl
  ·cases A<;>simp[Addr.add]
 rw[eA,Nat.sub_zero,Nat.sub_zero]
 have WK:((C.map iq).flatten.drop (k*2)).take (m*2)=((lK C key n).map iq).flatten:=by
  rw[rT jY,sC jY,ha]
  congr 2
  rcases Nat.lt_or_ge n.toNat (C.length-k) with h|h
  ·congr 1;omega
  ·rw[List.take_of_length_le (by rw[List.length_drop];omega),List.take_of_length_le (by rw[List.length_drop];omega)]
 have el:m=(lK C key n).length:=by rw[ha,List.length_take,List.length_drop];omega
 have RP:∀v0 w R,Bw 2 24 [.int .i64 0,.string ⟨#[]⟩] 52 52 v0 w R->aw 170 [v0] w R:=λv0 w R h=>Jc v0 w R h
 refine RP _ _ _ (FP (sz:=2) (lD:=24) (z:=[.int .i64 0,.string ⟨#[]⟩]) (t:=52) (ts:=52) (n:=m) (cs:=((lK C key n).map iq).flatten) ⟨A,c,rfl⟩ (λw' d h=>?_) (by rw[mH jY,<- el]) rfl (by decide) (pT uV _) (by omega) (by omega) hS λu w hS=>?_)
 ·rw[<- WK]
  exact ld m c w' _ (by omega) h (.tl Xh)
 ·rw[el]at hS
  exact⟨_,rfl,SL.b4 (iT.put hS Xp) Xi⟩
end
theorem QX(b:Nat)(C:List Row)(hn:C.length<=1000000):SP 82 [dF b] [.ob (iT (b,C))] (λu post=>post=[jL u C,.ob (iT (b,C))]):=by
 intro W F w hS;apply b9b;delta Nf bF;(try simp only[app]at hS)
 obtain⟨v,hS⟩:=iT.iff.1 hS
 refine Gp ?_
 refine Cc (V9 v C hn) ?_;clear hS
 rintro u post rfl w hS
 try simp only[app]at hS
 exact⟨_,rfl,SL.b4 (iT.put hS Xp) Xi⟩
theorem Q1(b:Nat)(C:List Row):SP 223 [dF b] [.ob (iT (b,C))] (dW (.int .i64 (C.length:Nat)) [.ob (iT (b,C))]):=by
 intro W F w hS;apply b5s;delta La bF;(try simp only[app]at hS)
 obtain⟨v,hS⟩:=iT.iff.1 hS
 refine Gp ?_
 refine zt hS Xh ?_
 exact⟨_,⟨rfl,rfl⟩,iT.iff.2 ⟨v,aR hS⟩⟩
theorem Yi(H:bw)(v:Value)(l:List Row)(hv:gi H 2 v l.length (l.map iq).flatten)(hl:l.length<=100000):SP 136 [v] [.mem H] (λu post=>∃b,u=dF b/\post=[.ob (iT (b,pB [] l)),.mem H]):=by
 intro W F w hS;apply b3t;delta J3 aF a7 ai cI bI;(try simp only[app]at hS)
 refine Gp ?_
 refine zK hS λxb w hS=>?_
 have hS:SL W (jL (.slice none 0 0) []::_) _:=a_.nil hS
 have hS:SL W (.ob (iT (xb,[]))::.mem H::F) _:=iT.iff.2 ⟨_,aR hS⟩
 refine zo hv ?_
 refine⟨λus w=>∃i:Nat,us=[.int .i64 i]/\i<=l.length/\SL W (.ob (iT (xb,pB [] (l.take i)))::.mem H::F) w,λus _=>match us with|[.int _ i]=>(l.length-i).toNat|_=>0,⟨0,rfl,by omega,hS⟩,?_⟩
 clear hS
 rintro v10 w ⟨i,cW,hi,hS⟩
 cases cW
 refine bW (λh=>?_) (λh=>?_)
 ·have b3:i<l.length:=by omega
  have hp:=a_p b3 []
  have kP:=Tm (l.take i) (C:=[]) List.Pairwise.nil
  have v_:=Tl (l.take i) []
  rw[List.length_take,List.length_nil]at v_
  refine zS hS Xh jY hv (x:=l[i]) (by simp[b3]) b3 ?_
  generalize l[i]=r at *
  have hP:(pB [] (l.take i)).length<=1000000:=by omega
  clear v_
  generalize pB [] (l.take i)=P at *
  obtain⟨rk,rv⟩:=r
  rw[F_]
  refine Gm λb w hS=>?_
  refine Cc (Yj xb P rk kP hP rv) ?_;clear hS
  rintro u post ⟨⟨q,rfl⟩,rfl⟩ w hS
  (try simp only[app]at hS);refine Gp ?_
  rw[<- hp]at hS
  exact⟨⟨i+1,rfl,by omega,aR hS⟩,by dsimp only;omega⟩
 ·obtain rfl:i=l.length:=by omega
  rw[List.take_length]at hS
  exact⟨_,⟨xb,rfl,rfl⟩,aR hS⟩
structure d_ where
 file:Int
 first:Int
 size:Nat
 es:List oa
 a:Option Addr
 c:Nat
def d_.lv(x:d_):Value:=.slice x.a x.es.length x.c
def d_.pl(x:d_):fW:=⟨x.file,x.first,x.size,nq x.es⟩
def iP(x:d_):List Value:=[.int .i64 x.file,.int .i64 x.first,.int .i64 x.size,x.lv]
theorem vA(x:d_):(iP x).length=4:=rfl
theorem s8(es:List oa):(nq es).length=es.length:=by simp[nq]
def gI(x:d_):zC:=zQ True [.ob (f_ x.lv 62 1 x.es.length (iS x.es)),.ob (zh ji x.es)]
theorem gI.iff{W w:World}{x:d_}{l:List Chunk}:SL W (.ob (gI x)::l) w↔SL W (.ob (f_ x.lv 62 1 x.es.length (iS x.es))::.ob (zh ji x.es)::l) w:=by
 unfold gI
 simp only[SL.fact,List.cons_append,List.nil_append,true_and]
def ka(v:Value)(t:Option wI):zC:=match t with
 | none=>zQ (v= .pointer none) []
 | some x=>mX λb:Nat=>zQ (v= .pointer (some ⟨b,0,none⟩)) [.pt b [.int .i64 x.file,.int .i64 x.oq,.bool x.fresh] 408]
theorem Bu{W w:World}{v:Value}{l:List Chunk}:SL W (.ob (ka v none)::l) w↔v= .pointer none/\SL W l w:=by
 unfold ka
 simp only[SL.fact,List.nil_append]
theorem Fs{W w:World}{v:Value}{x:wI}{l:List Chunk}:SL W (.ob (ka v (some x))::l) w↔∃b:Nat,v= .pointer (some ⟨b,0,none⟩)/\SL W (.pt b [.int .i64 x.file,.int .i64 x.oq,.bool x.fresh] 408::l) w:=by
 unfold ka
 simp only[SL.ex,SL.fact,List.cons_append,List.nil_append]
abbrev jP(sv tv:Value)(dp:Nat)(base size:Int):List Value:=[sv,.pointer (some ⟨dp,0,none⟩),.int .i64 base,.int .i64 size,tv]
abbrev jI(sv:Value)(xs:List d_):Chunk:=.ob (f_ sv 228 4 xs.length (xs.map iP).flatten)
abbrev Jr(lp dp:Nat)(base size:Int)(t:Option wI)(sv tv:Value)(xs:List d_):List Chunk:=[.pt lp (jP sv tv dp base size) 148,jI sv xs,.ob (zh gI xs),.ob (ka tv t)]
def iy(lp dp:Nat)(g:g8):zC:=mX λx:Value × Value × List d_=>zQ (x.2.2.map d_.pl=g.bR) (Jr lp dp g.base g.size g.ia x.1 x.2.1 x.2.2)
theorem iy.iff{W w:World}{lp dp:Nat}{g:g8}{l:List Chunk}:SL W (.ob (iy lp dp g)::l) w↔∃sv tv xs,xs.map d_.pl=g.bR/\SL W (.pt lp (jP sv tv dp g.base g.size) 148::jI sv xs::.ob (zh gI xs)::.ob (ka tv g.ia)::l) w:=by
 unfold iy Jr
 simp only[SL.ex,SL.fact,List.cons_append,List.nil_append]
 exact⟨λ⟨x,h1,h2⟩=>⟨x.1,x.2.1,x.2.2,h1,h2⟩,λ⟨a,b,c,h1,h2⟩=>⟨(a,b,c),h1,h2⟩⟩
section
variable {W w:World} {l:List Chunk}
theorem YQ{v:Value}{xs:List d_}{j:Nat}{k:IntKind}{K:Value->Prop}(h:SL W l w)(m:Has (jI v xs) l)(hj:j<xs.length)(hK:K (.agg (iP xs[j]).toArray)):ze 4 v (.int k (j:Int)) λp=>zj 4 p w K:=by
 refine yC h m hj λb o hb=>⟨⟨b,o,none⟩,iP xs[j],rfl,rfl,λi u hu=>?_,hK⟩
 rw[Addr.add_lit]
 have hi:i<4:=(List.getElem?_eq_some_iff.1 hu).1
 exact hb i u hi (w7 vA hj hu)
theorem TQ{v u:Value}{xs:List d_}{i j:Nat}{k:IntKind}{K:Value->Prop}(h:SL W l w)(m:Has (jI v xs) l)(hj:j<xs.length)(hu:(iP xs[j])[i]?=some u)(hK:K u):ze 4 v (.int k (j:Int)) λp=>zr i p λq=>b6 q w K:=by
 refine yC h m hj λb o hb=>?_
 refine zR ?_
 have hi:i<4:=(List.getElem?_eq_some_iff.1 hu).1
 exact⟨_,u,rfl,hb i u hi (w7 vA hj hu),hK⟩
end
theorem O'(xs:List d_):(xs.map iP).flatten.length=xs.length*4:=by
 induction xs with
 | nil=>rfl
 | cons x xs ih=>simp[ih,vA];omega
theorem yX(f n s:Int)(a:Option Addr)(k c:Nat)(h : -1000000000000000<=n/\n<=1000000000000000)(hk:k<=1000000000000000):SP 152 [.agg #[.int .i64 f,.int .i64 n,.int .i64 s,.slice a k c]] [] (dW (.int .i64 (n+k)) []):=by
 intro W F w hS;apply b38;delta Kg a7;(try simp only[app]at hS)
 refine⟨[.int .i64 f,.int .i64 n,.int .i64 s,.slice a k c],rfl,?_⟩
 refine Gm λb w hS=>?_
 (exact eF hS)
theorem ZV(x:d_){N:Nat}(h:mO x.pl N)(hN:N<=1000000000000000):SP 152 [.agg (iP x).toArray] [] (dW (.int .i64 x.pl.next) []):=by
 have h1:=h.n0;have h2:=h.n1;have h3:=h.ln
 have e:x.pl.next=x.first+x.es.length:=by simp[fW.next,d_.pl,s8]
 rw[e]
 have h3:x.es.length<=N:=by simpa [d_.pl,s8] using h3
 exact yX x.file x.first x.size x.a x.es.length x.c (by simp only[d_.pl]at h1 h2;omega) (by omega)
theorem yl(lp:Nat)(cs:List Value)(t:TypeId)(sv:Value)(xs:List d_)(nH:cs[0]?=some sv){N:Nat}(h:∀s∈xs.map d_.pl,mO s N)(hN:N<=1000000000000000)(hl:xs.length<=1000000000000000):
  SP 69 [.pointer (some ⟨lp,0,none⟩)] [.pt lp cs t,jI sv xs] (dW (.int .i64 (b9 (xs.map d_.pl))) [.pt lp cs t,jI sv xs]):=by
 intro W F w hS;apply b83;delta M7 aF bF ai;(try simp only[app]at hS)
 refine Gp ?_
 refine zX hS .hd nH ?_
 refine zW hS Xh ?_
 refine Gp ?_
 have hh:=u_ h
 refine za (λh0=>?_) (λh0=>?_)
 ·have:xs=[]:=List.eq_nil_of_length_eq_zero (by omega)
  subst this
  (exact eF hS)
 ·refine Gn λw hS=>?_
  refine zX hS .hd nH ?_
  refine Gp ?_
  refine zX hS .hd nH ?_
  refine zW hS Xh ?_
  refine Gp ?_
  have e:((xs.length:Nat):Int)-1=((xs.length-1:Nat):Int):=by omega
  rw[e]
  have hj:xs.length-1<xs.length:=by omega
  refine YQ hS Xh hj ?_
  have hm:(xs[xs.length-1]'hj).pl∈xs.map d_.pl:=List.mem_map.2 ⟨_,List.getElem_mem hj,rfl⟩
  have hg:b9 (xs.map d_.pl)=(xs[xs.length-1]'hj).pl.next-1:=by
   unfold b9
   rw[List.getLast?_map,List.getLast?_eq_getElem?,List.getElem?_eq_getElem hj];rfl
  have b5:=h _ hm
  rw[hg]at hh ⊢
  refine Cg (ZV _ b5 hN) λw hS=>?_
  exact eF hS
theorem Q5(lp:Nat)(cs:List Value)(t:TypeId)(sv:Value)(xs:List d_)(nH:cs[0]?=some sv)(hl:xs.length<=1000000000000000):
  SP 70 [.pointer (some ⟨lp,0,none⟩)] [.pt lp cs t,jI sv xs] (dW (.int .i64 (jB (xs.map d_.pl))) [.pt lp cs t,jI sv xs]):=by
 intro W F w hS;apply b84;delta M8 aF bF a7 ai;(try simp only[app]at hS)
 refine Gp ?_
 refine zX hS .hd nH ?_
 refine zW hS Xh ?_
 refine bW (λh0=>?_) (λh0=>?_)
 ·have:xs=[]:=List.eq_nil_of_length_eq_zero (by omega)
  subst this
  (exact eF hS)
 ·cases xs with
  | nil=>simp at h0
  | cons x xs=>
   refine Gp ?_
   refine zX hS .hd nH ?_
   refine TQ (j:=0) (i:=1) hS Xh (by simp) (u:=.int .i64 x.first) rfl ?_
   exact⟨_,⟨rfl,rfl⟩,hS⟩
theorem zh.back{W w:World}{l:List Chunk}{α:Type}{A:α->zC}{xs:List α}{t:Nat}{x:α}(h:SL W (.ob (A x)::.ob (zh A (xs.eraseIdx t))::l) w)(hx:xs[t]?=some x):SL W (.ob (zh A xs)::l) w:=by
 obtain⟨ht,e⟩:=List.getElem?_eq_some_iff.1 hx
 have:=zh.put h ht
 rwa [<- e,List.set_getElem_self]at this
theorem UG(x:d_):x.pl.next=x.first+x.es.length:=by simp[fW.next,d_.pl,s8]
theorem bFa(xs:List d_)(i:Nat)(n:Int):lj ((xs.drop i).map d_.pl) n=match xs[i]? with
 | none=>none
 | some x=>if x.first<=n/\n<x.pl.next then (nq x.es)[(n-x.first).toNat]? else lj ((xs.drop (i+1)).map d_.pl) n:=by
 cases h:xs[i]? with
 | none=>
  have:xs.drop i=[]:=List.drop_eq_nil_of_le (by rw[List.getElem?_eq_none_iff]at h;exact h)
  rw[this];rfl
 | some x=>
  obtain⟨hi,e⟩:=List.getElem?_eq_some_iff.1 h
  rw[List.drop_eq_getElem_cons hi,e];rfl
def Bq(pre:List Chunk)(o:Option (List UInt8))(r:Value)(post:List Chunk):Prop:=match o with
 | none=>r= .tuple #[.slice none 0 0,.int .i64 5]/\post=pre
 | some b=>∃u,r= .tuple #[u,.int .i64 0]/\post= .ob (a_ u 5 1 b.length (b.map cR))::pre
theorem qY(lp:Nat)(cs:List Value)(t:TypeId)(sv:Value)(xs:List d_)(n:Int)(nH:cs[0]?=some sv){N:Nat}(h:∀s∈xs.map d_.pl,mO s N)(hN:N<=1000000000000000)(hl:xs.length<=1000000000000000)(hn : -9000000000000000000<=n/\n<=9000000000000000000):
  SP 71 [.pointer (some ⟨lp,0,none⟩),.int .i64 n] [.pt lp cs t,jI sv xs,.ob (zh gI xs)] (Bq [.pt lp cs t,jI sv xs,.ob (zh gI xs)] (lj (xs.map d_.pl) n)):=by
 intro W F w hS;apply b85;delta M9 aF bF a7 ai bI;(try simp only[app]at hS)
 refine Gp ?_
 refine zX hS .hd nH ?_
 refine zW hS Xh ?_
 refine⟨λvs w=>∃i:Nat,i<=xs.length/\vs=[.int .i64 i]/\lj (xs.map d_.pl) n=lj ((xs.drop i).map d_.pl) n/\SL W (.pt lp cs t::jI sv xs::.ob (zh gI xs)::F) w,λvs _=>match vs with
  | [.int _ i]=>xs.length-i.toNat
  | _=>0,⟨0,by omega,rfl,rfl,hS⟩,?_⟩
 clear hS
 rintro v1 w1 ⟨i,hi,hv,hr,hS⟩
 cases hv
 rw[bFa]at hr
 refine bW (λh0=>?_) (λh0=>?_)
 ·have hj:i<xs.length:=by omega
  have hx:xs[i]?=some xs[i]:=List.getElem?_eq_getElem hj
  refine YQ hS Xh hj ?_
  have b5:=h _ (List.mem_map.2 ⟨_,List.getElem_mem hj,rfl⟩)
  rw[hx]at hr
  simp only at hr
  generalize xs[i]=x at *
  have o7:=UG x
  unfold iP d_.lv
  refine Gm λb w hS=>?_
  refine za (λh1=>?_) (λh1=>?_)
  ·refine Gp ?_
   refine Cg (ZV x b5 hN) λw hS=>?_
   refine za (λh2=>?_) (λh2=>?_)
   ·rw[if_pos ⟨h1,h2⟩]at hr
    have B':=b5.n0
    have hh2:=b5.n1
    simp only[d_.pl]at B' hh2
    refine Gp ?_
    obtain⟨j,G4⟩:=Int.eq_ofNat_of_zero_le (show 0<=n-x.first by omega)
    have jX:j<x.es.length:=by omega
    rw[G4]at hr ⊢
    have hS:=zh.take (SL.b4 hS (t:=.ob (zh gI xs)::.pt lp cs t::jI sv xs::F) Xi) hx
    have hS:=gI.iff.1 hS
    unfold d_.lv at hS
    refine yC (j:=j) hS .hd jX λb o hb=>?_
    have B7:x.es[j]?=some x.es[j]:=List.getElem?_eq_getElem jX
    have o8:(iS x.es)[j*1+0]?=some x.es[j].1:=by simp[iS,jX]
    refine⟨_,_,rfl,hb 0 _ (by omega) o8,?_⟩
    have hS:=zh.take (SL.b4 hS (t:=.ob (zh ji x.es)::.ob (f_ (.slice x.a x.es.length x.c) 62 1 x.es.length (iS x.es))::.ob (zh gI (xs.eraseIdx i))::.pt lp cs t::jI sv xs::F) Xi) B7
    have u0:x.es[j].2.length<=1048576:=b5.bl _ (List.mem_map.2 ⟨_,List.getElem_mem jX,rfl⟩)
    have GU:(nq x.es)[((j:Int)).toNat]?=some x.es[j].2:=by simp[nq,jX]
    rw[GU]at hr
    rw[hr]
    generalize x.es[j]=e at *
    have hR:ie (.ob (ji e)) e.1 e.2:=ie.own
    obtain⟨ea,ec,ee,_⟩:=hR.sl hS .hd
    have m_:=hR
    rw[ee]at m_ ⊢
    refine Zr (cs:=e.2.map cR) hS (λw' c kA=>m_.src kA (.tl .hd)) (by simp) (nk _) (by omega) ?_
    clear hS;intro u w hS _
    have hS:=zh.back (SL.b4 hS (t:=.ob (ji e)::.ob (zh ji (x.es.eraseIdx j))::.ob (f_ (.slice x.a x.es.length x.c) 62 1 x.es.length (iS x.es))::.ob (a_ u 5 1 e.2.length (e.2.map cR))::.ob (zh gI (xs.eraseIdx i))::.pt lp cs t::jI sv xs::F) Xi) B7
    have hS:=(gI.iff (x:=x)).2 (SL.b4 hS (t:=.ob (f_ (.slice x.a x.es.length x.c) 62 1 x.es.length (iS x.es))::.ob (zh ji x.es)::.ob (a_ u 5 1 e.2.length (e.2.map cR))::.ob (zh gI (xs.eraseIdx i))::.pt lp cs t::jI sv xs::F) Xi)
    have hS:=zh.back (SL.b4 hS (t:=.ob (gI x)::.ob (zh gI (xs.eraseIdx i))::.ob (a_ u 5 1 e.2.length (e.2.map cR))::.pt lp cs t::jI sv xs::F) Xi) hx
    exact⟨.ob (a_ u 5 1 e.2.length (e.2.map cR))::[.pt lp cs t,jI sv xs,.ob (zh gI xs)],⟨u,rfl,rfl⟩,aR hS⟩
   ·rw[if_neg (by omega)]at hr
    refine Gp ?_
    refine⟨⟨i+1,by omega,rfl,hr,aR hS⟩,?_⟩
    simp only[Int.toNat_natCast];omega
  ·rw[if_neg (by omega)]at hr
   refine Gp ?_
   refine⟨⟨i+1,by omega,rfl,hr,aR hS⟩,?_⟩
   simp only[Int.toNat_natCast];omega
 ·have hx:xs[i]?=none:=List.getElem?_eq_none (by omega)
  rw[hx]at hr
  rw[hr]
  exact⟨_,⟨rfl,rfl⟩,hS⟩
def td(p:Nat × List Row):List Value:=[dF p.1]
theorem w4(p:Nat × List Row):(td p).length=1:=rfl
abbrev mD(v:Value)(L:List (Nat × List Row)):Chunk:=.ob (a_ v 162 1 L.length (L.map td).flatten)
def iN(sp:Nat)(ts:List (List Row)):zC:=mX λx:Value × List (Nat × List Row)=>zQ (x.2.map Prod.snd=ts) [.pt sp [x.1] 165,mD x.1 x.2,.ob (zh iT x.2)]
theorem iN.iff{W w:World}{sp:Nat}{ts:List (List Row)}{l:List Chunk}:SL W (.ob (iN sp ts)::l) w↔∃v L,L.map Prod.snd=ts/\SL W (.pt sp [v] 165::mD v L::.ob (zh iT L)::l) w:=by
 unfold iN
 simp only[SL.ex,SL.fact,List.cons_append,List.nil_append]
 exact⟨λ⟨x,h1,h2⟩=>⟨x.1,x.2,h1,h2⟩,λ⟨v,L,h1,h2⟩=>⟨(v,L),h1,h2⟩⟩
theorem iN.put{W w:World}{sp:Nat}{v:Value}{L:List (Nat × List Row)}{ts:List (List Row)}{l F:List Chunk}(hL:L.map Prod.snd=ts)(hS:SL W l w)(p:ky [.pt sp [v] 165,mD v L,.ob (zh iT L)] l F):SL W (.ob (iN sp ts)::F) w:=iN.iff.2 ⟨v,L,hL,hS.pick p⟩
theorem vx{L:List (Nat × List Row)}{ts:List (List Row)}(h:L.map Prod.snd=ts):L.length=ts.length:=by rw[<- h,List.length_map]
theorem Bc{L:List (Nat × List Row)}{ts:List (List Row)}(h:L.map Prod.snd=ts){i:Nat}(hi:i<ts.length):∃b,L[i]?=some (b,ts[i]):=by
 subst h
 have hl:i<L.length:=by simpa using hi
 exact⟨L[i].1,by rw[List.getElem?_eq_getElem hl];simp⟩
theorem T1{L:List (Nat × List Row)}{ts:List (List Row)}(h:L.map Prod.snd=ts)(i:Nat)(b:Nat)(C:List Row):(L.set i (b,C)).map Prod.snd=ts.set i C:=by
 rw[<- h,List.map_set]
theorem one_set{L:List (Nat × List Row)}{i b:Nat}{C D:List Row}(h:L[i]?=some (b,C)):(L.set i (b,D)).map td=L.map td:=by
 refine List.ext_getElem (by simp) λj h1 h2=>?_
 simp only[List.length_map,List.length_set]at h1
 rw[List.getElem_map,List.getElem_map,List.getElem_set]
 split
 ·rename_i e
  subst e
  rw[List.getElem?_eq_getElem h1]at h
  rw[Option.some.inj h];rfl
 ·rfl
theorem mD.set{W w:World}{v:Value}{L:List (Nat × List Row)}{i b:Nat}{C D:List Row}{l:List Chunk}(h:L[i]?=some (b,C))(hS:SL W (mD v L::l) w):SL W (mD v (L.set i (b,D))::l) w:=by
 have e:=one_set (D:=D) h
 have e2:(L.set i (b,D)).length=L.length:=List.length_set
 unfold mD
 rw[e,e2];exact hS
section
variable (sp:Nat) (ts:List (List Row))
theorem yU:SP 59 [dF sp] [.ob (iN sp ts)] (dW (.int .i64 (ts.length:Nat)) [.ob (iN sp ts)]):=by
 intro W F w hS;apply b8v;delta MY bF;(try simp only[app]at hS)
 obtain⟨v,L,hL,hS⟩:=iN.iff.1 hS
 rw[<- vx hL]
 refine Gp ?_
 refine zt hS Xh ?_
 exact⟨_,⟨rfl,rfl⟩,SL.b4 (iN.put hL hS Xp) Xi⟩
theorem yL(t:Int):SP 81 [dF sp,.int .i64 t] [.ob (iN sp ts)] (dW (.bool (decide (0<=t/\t<ts.length))) [.ob (iN sp ts)]):=by
 intro W F w hS;apply b9a;delta Nd aF bF b7 ai;(try simp only[app]at hS)
 obtain⟨v,L,hL,hS⟩:=iN.iff.1 hS
 have hl:=vx hL
 refine bW (λh=>?_) (λh=>?_)
 ·refine Gp ?_
  refine zt hS Xh ?_
  refine Gp ?_
  rw[show decide (0<=t/\t<(ts.length:Int))=decide (t<(L.length:Int)) from decide_eq_decide.2 ⟨λh=>by omega,λh=>by omega⟩]
  exact⟨_,⟨rfl,rfl⟩,SL.b4 (iN.put hL hS Xp) Xi⟩
 ·rw[show decide (0<=t/\t<(ts.length:Int))=false from decide_eq_false λh=>by omega]
  exact⟨_,⟨rfl,rfl⟩,SL.b4 (iN.put hL hS Xp) Xi⟩
theorem EY{ts:List (List Row)}{t:Int}(h:¬(0<=t/\t<ts.length)):lk ts t=[]:=by
 unfold lk
 split
 ·rfl
 ·rw[List.getElem?_eq_none (by omega)];rfl
theorem Z8(t:Int)(hn:∀C∈ts,C.length<=1000000):SP 27 [dF sp,.int .i64 t] [.ob (iN sp ts)] (λu post=>post=[jL u (lk ts t),.ob (iN sp ts)]):=by
 intro W F w hS;apply b6u;delta LN bF a7 c_ bI;(try simp only[app]at hS)
 refine Cg (yL sp ts t) λw hS=>?_
 refine zA (λh=>?_) (λh=>?_)
 ·rw[EY (of_decide_eq_false h)]
  exact⟨_,rfl,a_.nil hS⟩
 ·obtain⟨h0,h1⟩:=of_decide_eq_true h
  obtain⟨t,rfl⟩:∃n:Nat,t=n:=⟨t.toNat,by omega⟩
  have ht:t<ts.length:=by omega
  rw[pY ts t ht]
  obtain⟨v,L,hL,hS⟩:=iN.iff.1 hS
  obtain⟨b,hb⟩:=Bc hL ht
  have hl:=vx hL
  refine Gp ?_
  refine zy hS Xh w4 hb (by omega) (i:=0) rfl ?_
  have hS:=zh.take (SL.b4 hS (t:=.ob (zh iT L)::.pt sp [v] 165::mD v L::F) Xi) hb
  refine Cc (QX b ts[t] (hn _ (List.getElem_mem ht))) ?_;clear hS
  rintro u post rfl w hS
  try simp only[app]at hS
  have hS:=zh.back (SL.b4 hS (t:=.ob (iT (b,ts[t]))::.ob (zh iT (L.eraseIdx t))::jL u ts[t]::.pt sp [v] 165::mD v L::F) Xi) hb
  exact⟨_,rfl,SL.b4 (iN.put hL hS Xp) Xi⟩
theorem qz(t key n:Int)(hn:∀C∈ts,C.length<=1000000)(hs:∀C∈ts,ke C)(h1 : -1000000<=n)(h2:n<=9000000000000000000):SP 83 [dF sp,.int .i64 t,.int .i64 key,.int .i64 n] [.ob (iN sp ts)] (λu post=>post=[jL u (lK (lk ts t) key n),.ob (iN sp ts)]):=by
 intro W F w hS;apply b9c;delta Ng bF a7 c_ bI;(try simp only[app]at hS)
 refine Cg (yL sp ts t) λw hS=>?_
 refine zA (λh=>?_) (λh=>?_)
 ·rw[EY (of_decide_eq_false h),show lK [] key n=[] by simp[lK]]
  exact⟨_,rfl,a_.nil hS⟩
 ·obtain⟨h0,h3⟩:=of_decide_eq_true h
  obtain⟨t,rfl⟩:∃n:Nat,t=n:=⟨t.toNat,by omega⟩
  have ht:t<ts.length:=by omega
  rw[pY ts t ht]
  obtain⟨v,L,hL,hS⟩:=iN.iff.1 hS
  obtain⟨b,hb⟩:=Bc hL ht
  have hl:=vx hL
  refine Gp ?_
  refine zy hS Xh w4 hb (by omega) (i:=0) rfl ?_
  have hS:=zh.take (SL.b4 hS (t:=.ob (zh iT L)::.pt sp [v] 165::mD v L::F) Xi) hb
  refine Cc (Y4 b ts[t] key (hs _ (List.getElem_mem ht)) (hn _ (List.getElem_mem ht)) n h1 h2) ?_;clear hS
  rintro u post rfl w hS
  try simp only[app]at hS
  have hS:=zh.back (SL.b4 hS (t:=.ob (iT (b,ts[t]))::.ob (zh iT (L.eraseIdx t))::jL u (lK ts[t] key n)::.pt sp [v] 165::mD v L::F) Xi) hb
  exact⟨_,rfl,SL.b4 (iN.put hL hS Xp) Xi⟩
end
def Bo(n:Int)(u:Value)(post:List Chunk):Prop:=if n<1\/8<n then u= .tuple #[.pointer none,.int .i64 1]/\post=[] else ∃sp,u= .tuple #[dF sp,.int .i64 0]/\post=[.ob (iN sp (List.replicate n.toNat []))]
theorem bWk(n:Int):SP 54 [.int .i64 n] [] (Bo n):=by
 intro W F w hS;apply b8r;delta MU aF fI aW dI ai eI bI;(try simp only[app]at hS)
 refine Gp ?_
 refine za (λh=>⟨[],by unfold Bo;rw[if_pos (.inl h)];exact⟨rfl,rfl⟩,hS⟩) (λh1=>?_)
 refine Gp ?_
 refine za (λh=>⟨[],by unfold Bo;rw[if_pos (.inr h)];exact⟨rfl,rfl⟩,hS⟩) (λh2=>?_)
 refine Gp ?_
 refine zK hS λsp w hS=>?_
 have hS:SL W (mD (.slice none 0 0) []::_) _:=a_.nil hS
 have hS:SL W (.ob (zh iT [])::_) _:=zh.nil hS
 refine⟨λus w=>∃(i:Nat) (v:Value) (L:List (Nat × List Row)),us=[.int .i64 i]/\i<=n/\L.map Prod.snd=List.replicate i []/\SL W (.pt sp [v] 165::mD v L::.ob (zh iT L)::F) w,
  λus _=>match us with|[.int _ i]=>(n-i).toNat|_=>0,⟨0,_,[],rfl,by omega,rfl,aR hS⟩,?_⟩
 clear hS
 rintro E7 w ⟨i,v,L,cW,hi,hL,hS⟩
 cases cW
 have hl:=vx hL
 rw[List.length_replicate]at hl
 refine bW (λh=>?_) (λh=>?_)
 ·refine Gn λw hS=>?_
  have hS:=SL.HX hS
  refine Cc (Yi bw.emp (.slice none 0 0) [] (gi.nil _ _) (by decide)) ?_;clear hS
  rintro u post ⟨xb,rfl,rfl⟩ w hS
  refine Gm λb w hS=>?_
  refine yy (n:=L.length) (xs:=L) (y:=(xb,[])) (enc:=td) hS Xr Xh w4 (λx=>by simp[td,Value.oneCell']) rfl (by omega) (by omega) λu w hS=>?_
  have mU:=a_.one hS
  refine Gn λw hS=>?_
  refine⟨⟨i+1,u,L++[(xb,[])],rfl,by omega,by rw[List.map_append,hL,List.replicate_succ'];rfl,?_⟩,by dsimp only;omega⟩
  have hS:=hS.sS (x:=(xb,([]:List Row)))
  rw[show pB [] []=[] from rfl]at hS
  have hS:=zh.snoc (SL.b4 hS (t:=.ob (zh iT L)::.ob (iT (xb,[]))::.pt sp [u] 165::mD u (L++[(xb,[])])::F) Xi)
  exact aR hS
 ·refine⟨[.ob (iN sp (List.replicate n.toNat []))],?_,SL.b4 (iN.put (ts:=List.replicate n.toNat []) (by rw[hL];congr 1;omega) hS Xp) Xi⟩
  unfold Bo
  rw[if_neg (by omega)]
  exact⟨sp,rfl,rfl⟩
theorem Vi{ts:List (List Row)}(h:∀C∈ts,ke C){c:ig}(ht:ki ts.length c=true):∀C∈mo ts c,ke C:=λC hC=>by
 rcases HY hC with hC|rfl
 ·exact h C hC
 ·have h1:=h _ (EX (of_decide_eq_true ht))
  unfold ni
  split
  ·exact T7 h1 _
  ·exact IU h1 _
theorem Dj:∀{l:List ig} {ts:List (List Row)},(∀C∈ts,ke C)->(∀c∈l,ki ts.length c=true)->∀C∈jz ts l,ke C
 | [],ts,h,_=>h
 | c::l,ts,h,h2=>by
  show ∀C∈jz (mo ts c) l,ke C
  refine Dj (Vi h (h2 c (.head _))) λx hx=>?_
  rw[wN];exact h2 x (.tail _ hx)
theorem bWg(b:Nat)(C D:List Row)(c:ig)(hs:ke C)(hn:C.length<=1000000):SP 221 [agg (td (b,D)),agg (jA c)] [.ob (iT (b,C))] (λ_ post=>post=[.ob (iT (b,ni C c))]):=by
 intro W F w hS;apply b5q;delta K9 a7;(try simp only[app]at hS)
 refine zK hS λxb w hS=>?_
 refine zK hS λyb w hS=>?_
 unfold jA td at hS
 obtain⟨ct,ck,cg,cv⟩:=c
 refine Gp ?_
 cases cg with
 | true=>
  refine zw ?_
  refine Gp ?_
  refine Cc (QY b C ck hs hn) ?_;clear hS
  rintro u post ⟨⟨q,rfl⟩,rfl⟩ w hS
  try simp only[app]at hS
  have hS:SL W (.ob (iT (b,ni C ⟨ct,ck,true,cv⟩))::_::_::F) _:=hS
  exact⟨_,rfl,aR hS⟩
 | false=>
  refine zq ?_
  refine Gp ?_
  refine Cc (Yj b C ck hs hn cv) ?_;clear hS
  rintro u post ⟨⟨q,rfl⟩,rfl⟩ w hS
  try simp only[app]at hS
  have hS:SL W (.ob (iT (b,ni C ⟨ct,ck,false,cv⟩))::_::_::F) _:=hS
  exact⟨_,rfl,aR hS⟩
section
variable (sp:Nat) (ts:List (List Row)) (H:bw) (v:Value) (l:List ig) (hv:gi H 4 v l.length (l.map jA).flatten) (hl:l.length<=140737488351232)
include hv hl
theorem Yy:SP 220 [dF sp,v] [.ob (iN sp ts),.mem H] (dW (.bool (l.all (ki ts.length))) [.ob (iN sp ts),.mem H]):=by
 intro W F w hS;apply b5p;delta K8 aF a7 c_ b7 ai cI;(try simp only[app]at hS)
 refine zo hv ?_
 refine⟨λus w=>∃i:Nat,us=[.int .i64 i]/\i<=l.length/\(∀j (h:j<l.length),j<i->ki ts.length l[j]=true)/\SL W (.ob (iN sp ts)::.mem H::F) w,λus _=>match us with|[.int _ i]=>(l.length-i).toNat|_=>0,⟨0,rfl,by omega,λj h hj=>by omega,hS⟩,?_⟩
 clear hS
 rintro v9 w ⟨i,cW,hi,iz,hS⟩
 cases cW
 refine bW (λh=>?_) (λh=>?_)
 ·have b3:i<l.length:=by omega
  refine zS hS Xh m0 hv (x:=l[i]) (by simp[b3]) b3 ?_
  have hq:ki ts.length l[i]=decide (0<=l[i].table/\l[i].table<(ts.length:Int)):=rfl
  have hf:ki ts.length l[i]=false->l.all (ki ts.length)=false:=λh=>List.all_eq_false.2 ⟨_,List.getElem_mem b3,by rw[h];decide⟩
  have GP:ki ts.length l[i]=true->∀j (h:j<l.length),j<i+1->ki ts.length l[j]=true:=λh j hj k9=>by
   by_cases e:j=i
   ·subst e;exact h
   ·exact iz j hj (by omega)
  clear iz
  generalize l[i]=c at *
  obtain⟨ct,ck,cg,cv⟩:=c
  refine Gm λb w hS=>?_
  refine Cg (yL sp ts ct) λw hS=>?_
  refine zA (λhb=>?_) (λhb=>?_)
  ·rw[hf (by rw[hq];exact hb)]
   (exact eF hS)
  ·refine Gp ?_
   refine⟨⟨i+1,rfl,by omega,GP (by rw[hq];exact hb),aR hS⟩,by dsimp only;omega⟩
 ·rw[show l.all (ki ts.length)=true from List.all_eq_true.2 λc hc=>by
   obtain⟨j,hj,rfl⟩:=List.getElem_of_mem hc
   exact iz j hj (by omega)]
  (exact eF hS)
theorem ZK(hs:∀C∈ts,ke C)(N:Nat)(hn:∀C∈ts,C.length<=N)(hN:N+l.length<=1000000):SP 142 [dF sp,v] [.ob (iN sp ts),.mem H] (dW (.bool (l.all (ki ts.length))) [.ob (iN sp (if l.all (ki ts.length)=true then jz ts l else ts)),.mem H]):=by
 intro W F w hS;apply b3z;delta J9 aF bF a7 c_ b7 ai cI;(try simp only[app]at hS)
 refine Cg (Yy sp ts H v l hv hl) λw hS=>?_
 cases ha:l.all (ki ts.length) with
 | false=>
  refine zw ?_
  rw[if_neg (by decide)]
  (exact eF hS)
 | true=>
  refine zq ?_
  rw[if_pos rfl]
  have ha:=List.all_eq_true.1 ha
  refine zo hv ?_
  refine⟨λus w=>∃i:Nat,us=[.int .i64 i]/\i<=l.length/\SL W (.ob (iN sp (jz ts (l.take i)))::.mem H::F) w,λus _=>match us with|[.int _ i]=>(l.length-i).toNat|_=>0,⟨0,rfl,by omega,hS⟩,?_⟩
  clear hS
  rintro wC w ⟨i,cW,hi,hS⟩
  cases cW
  refine bW (λh=>?_) (λh=>?_)
  ·have b3:i<l.length:=by omega
   have kP:jz ts (l.take (i+1))=mo (jz ts (l.take i)) l[i]:=by rw[List.take_succ_eq_append_getElem b3,FD]
   have oZ:=ha _ (List.getElem_mem b3)
   have nt:=tW ts (l.take i)
   have uk:=Dj (l:=l.take i) hs λc hc=>ha c (List.mem_of_mem_take hc)
   have rW:=Aa N (l:=l.take i) hn λc hc=>ha c (List.mem_of_mem_take hc)
   have AQ:(l.take i).length<=l.length:=by rw[List.length_take];omega
   generalize jz ts (l.take i)=T at *
   refine zS hS Xh m0 hv (x:=l[i]) (by simp[b3]) b3 ?_
   generalize l[i]=c at *
   obtain⟨ct,ck,cg,cv⟩:=c
   obtain⟨h0,h1⟩:0<=ct/\ct<(ts.length:Int):=of_decide_eq_true oZ
   obtain⟨t,rfl⟩:∃n:Nat,ct=n:=⟨ct.toNat,by omega⟩
   have ht:t<T.length:=by omega
   have CC:T[t]∈T:=List.getElem_mem ht
   obtain⟨pv,L,hL,hS⟩:=iN.iff.1 hS
   obtain⟨b0,hb⟩:=Bc hL ht
   have GK:=vx hL
   refine Gm λb w hS=>?_
   refine zV hS Xh w4 hb (by omega) ?_
   refine Gp ?_
   have hS:=zh.take (SL.b4 hS (t:=.ob (zh iT L)::.pt sp [pv] 165::mD pv L::.mem H::F) Xi) hb
   refine Cc (bWg b0 T[t] T[t] ⟨t,ck,cg,cv⟩ (uk _ CC) (by have:=rW _ CC;omega)) ?_;clear hS
   rintro u post rfl w hS
   (try simp only[app]at hS);refine Gp ?_
   have hS:=zh.put hS (by omega)
   have hS:=mD.set (D:=ni T[t] ⟨t,ck,cg,cv⟩) hb (SL.b4 hS (t:=mD pv L::.ob (zh iT (L.set t (b0,ni T[t] ⟨t,ck,cg,cv⟩)))::.pt sp [pv] 165::.mem H::F) Xi)
   refine⟨⟨i+1,rfl,by omega,?_⟩,by dsimp only;omega⟩
   rw[kP]
   refine SL.b4 (iN.put (ts:=mo T ⟨t,ck,cg,cv⟩) ?_ hS Xp) Xi
   rw[T1 hL t b0]
   unfold mo
   rw[pY T t ht]
   rfl
  ·obtain rfl:i=l.length:=by omega
   rw[List.take_length]at hS
   (exact eF hS)
end
structure Bm{κ:Type}[DecidableEq κ](P:Program)(kt:TypeId)(key:κ->Value):Prop where
 wide:∃fs,P.underlying kt=some (.struct fs)
 check:∀(k:κ) (em:Bool) (w:World),(Instr.checkKey em 10000 kt (key k)).run P w= .ok () w
 eq:∀(a b:κ) (w:World),(Op.equal kt (key a) (key b)).run P w= .ok (decide (a=b)) w
 stays:∀(k:κ) (w:World),(Instr.keyThatStays (key k) (key k)).run P w= .ok (key k) w
 inj:∀{a b:κ},key a=key b->a=b
section
variable {W w:World} {l l':List Chunk} {κ α:Type} [DecidableEq κ] {key:κ->Value} {val:α->Value} {b:Nat} {m:List (κ × α)} {P:Program} {t kt et:TypeId} {z:Value} {k:κ}
theorem Dz(ok:Bm P kt key)(k:κ)(es:List MapEntry):(Instr.findKey kt (key k) es).run P w=(Instr.findAsking kt (key k) es).run P w:=by
 obtain⟨fs,hd⟩:=ok.wide
 cases es with
 | nil=>simp[Instr.findKey,run_underlying hd,Result.andThen,Instr.findNow,Instr.findAsking]
 | cons e es=>simp[Instr.findKey,run_underlying hd,Result.andThen,Instr.findNow,Instr.sameNow]
theorem Gj(ok:Bm P kt key)(k:κ):∀(es:List MapEntry) (m:List (κ × α)) (i:Nat),es.map kv=m.map (kw key val) ->
  ((Instr.findAsking kt (key k) es i).run P w= .ok none w/\kV m k=none/\(∀v,ma m k v=m++[(k,v)])/\∀x∈es,x.key≠key k) \/
  ∃j e a,(Instr.findAsking kt (key k) es i).run P w= .ok (some (i+j,val a)) w/\es[j]?=some e/\e.key=key k/\kV m k=some a /\
   (∀v,(es.modify j λe=>{e with key:=key k,val:=val v}).map kv=(ma m k v).map (kw key val))
 | [],[],_,_=>.inl ⟨rfl,rfl,λ_=>rfl,by simp⟩
 | [],_::_,_,h=>by simp at h
 | _::_,[],_,h=>by simp at h
 | e::es,p::m,i,h=>by
  simp only[List.map_cons,List.cons.injEq]at h
  obtain⟨h1,h2⟩:=h
  obtain⟨x,y⟩:=p
  simp only[kv,kw,Prod.mk.injEq]at h1
  obtain⟨ri,Au⟩:=h1
  have hq:=ok.eq k x w
  by_cases hx:x=k
  ·subst hx
   rw[decide_eq_true rfl]at hq
   refine .inr ⟨0,e,y,by simp[Instr.findAsking,ri,hq,Au,Result.andThen],rfl,ri,by simp[kV],?_⟩
   intro v;simp[ma,kv,kw];exact h2
  ·rw[decide_eq_false (λh=>hx h.symm)]at hq
   rcases Gj ok k es m (i+1) h2 with ⟨a1,a2,a3,a5⟩|⟨j,e',a,a1,a2,a3,a4,a5⟩
   ·refine .inl ⟨by simp[Instr.findAsking,ri,hq,a1,Result.andThen],by simp[kV,hx,a2],λv=>by simp[ma,hx,a3],?_⟩
    intro z hz
    rcases List.mem_cons.1 hz with rfl|hz
    ·rw[ri];exact λq=>hx (ok.inj q)
    ·exact a5 z hz
   ·refine .inr ⟨j+1,e',a,by simp[Instr.findAsking,ri,hq,a1,Result.andThen];omega,by simpa using a2,a3,by simp[kV,hx,a4],?_⟩
    intro v;simp[ma,hx,kv,kw,ri,Au];exact a5 v
theorem bIo{K:Value->Prop}(hS:SL W l w)(hm:Has (.ob (jU key val b m)) l)(ok:Bm P kt key)(ht:P.underlying t=some (.map kt et))(hz:∀w,(zeroValue et).run P w= .ok z w)
  (h:K (.tuple #[((kV m k).map val).getD z,.bool (kV m k).isSome])):kg P (Instr.lookup t (.map (some b)) (key k) true) w K:=by
 obtain⟨es,c,e1,e2,hb⟩:=hS.AX hm
 rcases Gj (w:=w) ok k es m 0 e1 with ⟨a1,a2,_,_⟩|⟨j,e,a,a1,_,_,a4,_⟩
 ·refine⟨_,?_,h⟩
  simp[Instr.lookup,run_underlying ht,MapKept.run_getObj_map hb,ok.check,Dz ok,a1,hz,Result.andThen,a2]
 ·refine⟨_,?_,h⟩
  simp[Instr.lookup,run_underlying ht,MapKept.run_getObj_map hb,ok.check,Dz ok,a1,Result.andThen,a4]
theorem bIq{v:α}{K:Value->World->Prop}(hS:SL W l w)(u:kr (.ob (jU key val b m)) (.ob (jU key val b (ma m k v))) l l')(ok:Bm P kt key)(ht:P.underlying t=some (.map kt et))
  (h:∀u w',SL W l' w'->K u w'):z6 P (do Instr.mapUpdate t (.map (some b)) (key k) (val v);pure undef) w K:=by
 obtain⟨es,c,e1,e2,hb⟩:=hS.AX u.has
 rcases Gj (w:=w) ok k es m 0 e1 with ⟨a1,_,a3,a5⟩|⟨j,e,a,a1,a2,a3,_,a5⟩
 ·refine⟨undef,{w with heap:=w.heap.setIfInBounds b (.map (es++[({key:=key k,val:=val v,born:=c}:MapEntry)]).toArray (c+1))},?_,h _ _ (hS.AY u hb (by rw[a3];simp[e1,kv,kw]) ?_)⟩
  ·simp[Instr.mapUpdate,run_underlying ht,MapKept.run_getObj_map hb,ok.check,Dz ok,a1,MapKept.run_setObj_map _ hb,Result.andThen]
  ·have:=MapKept.stamped_push e2 (key:=key k) (val:=val v) (by simpa using a5)
   simpa using this
 ·refine⟨undef,{w with heap:=w.heap.setIfInBounds b (.map (es.modify j λe=>{e with key:=key k,val:=val v}).toArray c)},?_,h _ _ (hS.AY u hb (a5 v) ?_)⟩
  ·have hj:es.toArray[j]?=some e:=by simpa using a2
   simp[Instr.mapUpdate,run_underlying ht,MapKept.run_getObj_map hb,ok.check,Dz ok,a1,a2,a3,ok.stays,MapKept.run_setObj_map _ hb,Result.andThen]
  ·have xo:∀e',es.toArray[j]?=some e'->({e' with key:=key k,val:=val v}:MapEntry).key=e'.key:=λe' u9=>by
    have:es[j]?=some e':=by simpa using u9
    rw[a2]at this;cases this;exact a3.symm
   have:=MapKept.stamped_modify e2 j (λe=>{e with key:=key k,val:=val v}) (λ_ _=>rfl) (λe' _ u9=>xo e' u9)
   simpa using this
end
def BK(p:Int × Int):List Value:=[.int .i64 p.1,.int .i64 p.2]
def nL(p:Int × Int):Value:=agg (BK p)
theorem WW(a b:Int × Int)(w:World):(Op.equal 311 (nL a) (nL b)).run Tryz.prog w= .ok (decide (a=b)) w:=by
 refine TF Tryz.underlying311 (by kernel_rfl) ?_
 obtain⟨k1,v1⟩:=a
 obtain⟨k2,v2⟩:=b
 simp[BK,Op.eqFields,part,run_equalIn_int (h:=Tryz.underlying2),run_equalIn_int (h:=Tryz.underlying3),Result.andThen]
 by_cases h0:k1=k2<;>by_cases h1:v1=v2<;>simp[*]
theorem Th:Bm Tryz.prog 311 nL where
 wide:=⟨_,Tryz.underlying311⟩
 check:=λk em w=>by
  obtain⟨a,b⟩:=k
  have h1:(Instr.checkKey em 9999 3 (.int .i64 a)).run Tryz.prog w= .ok () w:=MapKept.run_checkKey (k:=.int .i64 a) Tryz.underlying3 (wi .i64 |>.is a) em 9998
  have h2:(Instr.checkKey em 9999 2 (.int .i64 b)).run Tryz.prog w= .ok () w:=MapKept.run_checkKey (k:=.int .i64 b) Tryz.underlying2 (wi .i64 |>.is b) em 9998
  show (Instr.checkKey em (9999+1) _ _).run Tryz.prog w=_
  unfold Instr.checkKey
  simp[nL,BK,run_underlying Tryz.underlying311,part,h1,h2,Result.andThen]
 eq:=WW
 stays:=λk w=>by
  have:Instr.sameBits 10000 (nL k) (nL k)=true:=by simp[nL,BK,Instr.sameBits]
  simp[Instr.keyThatStays,this]
 inj:=λ{a b} h=>by
  obtain⟨a1,a2⟩:=a
  obtain⟨b1,b2⟩:=b
  simp[nL,BK]at h
  rw[h.1,h.2]
theorem bI4{W w:World}{l:List Chunk}{α:Type}{enc:α->List Value}{v:Value}{t:TypeId}{sz j:Nat}{k:IntKind}{xs:List α}{y:α}{K:World->Prop}(hS:SL W (.ob (a_ v t sz xs.length (xs.map enc).flatten)::l) w)(hn:∀x,(enc x).length=sz)
  (hj:j<xs.length) (h1:∀v∈enc y,v.oneCell'=true) (hK:∀w',SL W (.ob (a_ v t sz (xs.set j y).length ((xs.set j y).map enc).flatten)::l) w'->K w'):ze sz v (.int k (j:Int)) λq=>zl sz q (agg (enc y)) w K:=by
 rcases a_.open hS with ⟨_,h0,_⟩|⟨b,cap,rest,rfl,hc,hlen,nc,hS⟩
 ·omega
 have ix:j*sz+sz<=xs.length*sz:=by
  have:(j+1)*sz<=xs.length*sz:=Nat.mul_le_mul_right _ hj
  rwa [Nat.add_mul,Nat.one_mul]at this
 refine zB hj ?_
 rw[Nat.zero_add]
 refine QJ hS .hd (hn y) (by rw[List.length_append];omega) h1 λw' hS=>hK w' ?_
 have e:((xs.map enc).flatten++rest).take (j*sz)++enc y++((xs.map enc).flatten++rest).drop (j*sz+sz)=((xs.set j y).map enc).flatten++rest:=by
  rw[List.take_append_of_le_length (by omega),List.drop_append_of_le_length (by omega),sC hn,show j*sz+sz=(j+1)*sz by rw[Nat.add_mul,Nat.one_mul],rT hn,List.set_eq_take_append_cons_drop,if_pos hj]
  simp
 rw[e]at hS
 have hl:(xs.set j y).length=xs.length:=List.length_set
 rw[hl]
 exact a_.mk hc (by rw[mH hn,hl]) nc hS
theorem Qw(sp:Nat)(ts:List (List Row))(H:bw)(v:Value)(t:Nat)(l:List Row)(ht:t<ts.length)(hv:gi H 2 v l.length (l.map iq).flatten)(hs:ke l)(hl:l.length<=100000):
  SP 141 [dF sp,.int .i64 (t:Int),v] [.ob (iN sp ts),.mem H] (dW (.bool true) [.ob (iN sp (ts.set t l)),.mem H]):=by
 intro W F w hS;apply b3y;delta J8 aW dI eI;(try simp only[app]at hS)
 refine Cg (yL sp ts t) λw hS=>?_
 refine za (λ_=>?_) (λh=>by omega)
 obtain⟨pv,L,hL,hS⟩:=iN.iff.1 hS
 have Rp:=vx hL
 obtain⟨b0,hb⟩:=Bc hL ht
 refine Gn λw hS=>?_
 refine Cc (Yi H v l hv hl) ?_;clear hS
 rintro u post ⟨xb,rfl,rfl⟩ w hS
 try simp only[app]at hS
 rw[a_o hs]at hS
 refine Gp ?_
 refine bI4 (enc:=td) (y:=(xb,l)) (SL.b4 hS (t:=mD pv L::.ob (zh iT L)::.ob (iT (xb,l))::.pt sp [pv] 165::.mem H::F) Xi) w4 (by omega) (by simp[td,Value.oneCell']) λw hS=>?_
 have hS:=zh.take (SL.b4 hS (t:=.ob (zh iT L)::.ob (iT (xb,l))::.pt sp [pv] 165::mD pv (L.set t (xb,l))::.mem H::F) Xi) hb
 have hS:=zh.put (SL.b4 hS (t:=.ob (iT (xb,l))::.ob (zh iT (L.eraseIdx t))::.pt sp [pv] 165::mD pv (L.set t (xb,l))::.mem H::F) Xi) (by omega)
 have hS:=iN.put (T1 hL t xb l) hS Xp
 refine Cg (yL sp (ts.set t l) t) λw hS=>?_
 rw[show decide (0<=(t:Int)/\(t:Int)<((ts.set t l).length:Int))=true from decide_eq_true (by rw[List.length_set];omega)]
 (exact eF hS)
theorem Sb:∀{C:List Row},ke C->∀(k:Int) (v:ByteArray),(km C ⟨k,v⟩).length=C.length+if (jC C k).isSome=true then 0 else 1
 | [],_,k,v=>by simp[km,jC]
 | x::C,h,k,v=>by
  unfold ke at h
  rw[List.pairwise_cons]at h
  unfold km
  by_cases h1:x.key<k
  ·have hg:jC (x::C) k=jC C k:=by unfold jC;rw[List.find?_cons];simp[show ¬x.key=k by omega]
   rw[if_pos h1,List.length_cons,Sb (C:=C) h.2 k v,List.length_cons,hg];omega
  ·rw[if_neg h1]
   by_cases h2:x.key=k
   ·have hg:(jC (x::C) k).isSome=true:=by unfold jC;rw[List.find?_cons];simp[h2]
    rw[if_pos h2,hg];simp
   ·have hg:jC (x::C) k=none:=by
     unfold jC
     have:(x::C).find? (λc=>decide (c.key=k))=none:=by
      rw[List.find?_eq_none]
      intro y hy
      rcases List.mem_cons.1 hy with rfl|hy
      ·simpa using h2
      ·have:=h.1 y hy;simp;omega
     rw[this];rfl
    rw[if_neg h2,hg];simp
theorem OA:∀(C:List Row) (k:Int),((lS C k).length:Int)=C.length-if (jC C k).isSome=true then 1 else 0
 | [],k=>by simp[lS,jC]
 | x::C,k=>by
  unfold lS
  by_cases h:x.key=k
  ·have hg:(jC (x::C) k).isSome=true:=by unfold jC;rw[List.find?_cons];simp[h]
   rw[if_pos h,hg];simp
  ·have hg:jC (x::C) k=jC C k:=by unfold jC;rw[List.find?_cons];simp[h]
   rw[if_neg h,hg,List.length_cons,List.length_cons]
   have:=OA C k
   omega
theorem bFi{C:List Row}(h:ke C)(c:ig):((ni C c).length:Int)=C.length+(if (jC C c.key).isSome=true then (if c.gone=true then -1 else 0) else (if c.gone=true then 0 else 1)):=by
 unfold ni
 cases c.gone with
 | true=>
  rw[if_pos rfl,OA]
  split<;>simp<;>omega
 | false=>
  rw[if_neg (by decide)]
  have:=Sb h c.key c.val
  rw[this]
  split<;>simp
theorem bFj{C:List Row}(h:ke C)(c:ig)(k:Int):(jC (ni C c) k).isSome=if c.key=k then !c.gone else (jC C k).isSome:=by
 unfold ni
 cases hg:c.gone with
 | true=>
  rw[if_pos rfl,Ph h]
  split<;>rfl
 | false=>
  rw[if_neg (by decide),Pk]
  split<;>rfl
def Bn(ts T:List (List Row))(m:List ((Int × Int) × Bool)):Prop:=∀p:Int × Int,match kV m p with
 | none=>jC (lk T p.1) p.2=jC (lk ts p.1) p.2
 | some b=>(jC (lk T p.1) p.2).isSome=b
theorem aWs{κ α:Type}[DecidableEq κ](m:List (κ × α))(k:κ)(v:α)(k':κ):kV (ma m k v) k'=if k=k' then some v else kV m k':=by
 induction m with
 | nil=>simp[ma,kV]
 | cons p m ih=>
  unfold ma
  by_cases h:p.1=k
  ·rw[if_pos h]
   by_cases h1:k=k'
   ·simp[kV,h1]
   ·simp[kV,h1,show ¬p.1=k' by rw[h];exact h1]
  ·rw[if_neg h]
   by_cases h1:p.1=k'
   ·have:¬k=k':=λe=>h (by rw[h1,e])
    simp[kV,h1,this]
   ·simp only[kV,if_neg h1];exact ih
theorem bR5{T:List (List Row)}{c:ig}(hc:ki T.length c=true)(t:Int):lk (mo T c) t=if t=c.table then ni (lk T c.table) c else lk T t:=by
 obtain⟨h0,h1⟩:=of_decide_eq_true hc
 unfold mo
 by_cases ht:0<=t/\t<(T.length:Int)
 ·obtain⟨n,rfl⟩:∃n:Nat,t=n:=⟨t.toNat,by omega⟩
  have hn:n<T.length:=by omega
  rw[pY _ n (by rw[List.length_set];exact hn),List.getElem_set]
  by_cases e:c.table.toNat=n
  ·rw[if_pos e,if_pos (by omega)]
  ·rw[if_neg e,if_neg (by omega),pY T n hn]
 ·rw[EY (by rw[List.length_set];exact ht),if_neg (by omega),EY ht]
theorem Bn.step{ts T:List (List Row)}{m:List ((Int × Int) × Bool)}(h:Bn ts T m)(hs:∀C∈T,ke C){c:ig}(hc:ki T.length c=true):Bn ts (mo T c) (ma m (c.table,c.key) (!c.gone)):=by
 have RM:=hs _ (EX (of_decide_eq_true hc))
 rintro ⟨t,k⟩
 rw[aWs]
 have hk:=h (t,k)
 simp only at hk ⊢
 rw[bR5 hc]
 by_cases e:(c.table,c.key)=(t,k)
 ·rw[if_pos e]
  simp only[Prod.mk.injEq]at e
  rw[if_pos e.1.symm,bFj RM,if_pos e.2]
 ·rw[if_neg e]
  simp only[Prod.mk.injEq,not_and]at e
  by_cases e1:t=c.table
  ·rw[if_pos e1]
   have e2:=e e1.symm
   subst e1
   have hg:jC (ni (lk T c.table) c) k=jC (lk T c.table) k:=by
    unfold ni
    split
    ·rw[Ph RM,if_neg e2]
    ·rw[Pk,if_neg e2]
   rw[hg];exact hk
  ·rw[if_neg e1];exact hk
def mQ(T:List (List Row)):List Value:=T.map λC=>.int .i64 (C.length:Nat)
theorem Wb(T:List (List Row)):(mQ T).length=T.length:=by simp[mQ]
theorem Of{T:List (List Row)}{c:ig}{t:Nat}(ht:c.table=t)(h:t<T.length):mQ (mo T c)=(mQ T).set t (.int .i64 ((ni T[t] c).length:Nat)):=by
 unfold mQ mo
 rw[List.map_set,ht,Int.toNat_natCast,pY T t h]
theorem Wc{T:List (List Row)}{c:ig}{t:Nat}(ht:c.table=t)(h:t<T.length)(hl:(ni T[t] c).length=T[t].length):mQ (mo T c)=mQ T:=by
 rw[Of ht h,hl]
 unfold mQ
 rw[<- List.map_set (f:=λC:List Row=>Value.int .i64 (C.length:Nat)) (a:=T[t]),List.set_getElem_self]
theorem FQ{T:List (List Row)}{t:Nat}(h:t<T.length):(mQ T)[t]?=some (.int .i64 (T[t].length:Nat)):=by simp[mQ,h]
theorem y9{W w:World}{l:List Chunk}{v u:Value}{t:TypeId}{n j:Nat}{k:IntKind}{cells:List Value}{K:World->Prop}(hS:SL W (.ob (a_ v t 1 n cells)::l) w)(hj:j<n)(h1:u.oneCell'=true)
  (hK:∀w',SL W (.ob (a_ v t 1 n (cells.set j u))::l) w'->K w'):ze 1 v (.int k (j:Int)) λq=>jG q u w K:=by
 rcases a_.open hS with ⟨_,h0,_⟩|⟨b,cap,rest,rfl,hc,hlen,nc,hS⟩
 ·omega
 refine zB hj ?_
 rw[Nat.zero_add,Nat.mul_one]
 refine Zb hS .hd (List.getElem?_eq_getElem (by rw[List.length_append];omega)) h1 λw' hS=>hK w' ?_
 rw[List.set_append_left _ _ (by omega)]at hS
 exact a_.mk hc (by rw[List.length_set];exact hlen) nc hS
theorem OI(t k:Int)(g:Bool)(v:ByteArray):jA ⟨t,k,g,v⟩=[.int .i64 t,.int .i64 k,.bool g,.string v]:=rfl
theorem Qv(sp:Nat)(ts:List (List Row))(H:bw)(v:Value)(l:List ig)(hv:gi H 4 v l.length (l.map jA).flatten)(hl:l.length<=140737488351232)(hs:∀C∈ts,ke C)(hn:∀C∈ts,C.length<=1000000)(hl6:l.length<=1000000)(CA:ts.length<=1000):
  SP 145 [dF sp,v] [.ob (iN sp ts),.mem H] (dW (.bool (oU ts l)) [.ob (iN sp ts),.mem H]):=by
 intro W F w hS;apply b32;delta Ka aF bF a7 c_ b7 ai eI cI;(try simp only[app]at hS)
 refine Cg (Yy sp ts H v l hv hl) λw hS=>?_
 cases ha:l.all (ki ts.length) with
 | false=>
  refine zw ?_
  rw[show oU ts l=false by unfold oU;rw[ha];rfl]
  (exact eF hS)
 | true=>
  refine zq ?_
  have hF:oU ts l=(jz ts l).all λC=>decide (C.length<=1000):=by unfold oU;rw[ha];rfl
  have ha:=List.all_eq_true.1 ha
  obtain⟨pv,L,hL,hS⟩:=iN.iff.1 hS
  have GK:=vx hL
  refine Gp ?_
  refine zt hS Xh ?_
  refine EP hS (Nat.le_refl _) (by omega) (by omega) λnb w hS=>?_
  have hS:=a_.full (sz:=1) (n:=L.length) (by rw[nO];rfl) hS
  refine Gp ?_
  refine zt hS Xh ?_
  refine⟨λus w=>∃(i:Nat) (cells:List Value),us=[.int .i64 i]/\i<=L.length/\cells.length=L.length/\(∀j (h:j<ts.length),j<i->cells[j]?=some (.int .i64 (ts[j].length:Nat)))/\SL W (.ob (a_ (.slice (some ⟨nb,0,none⟩) L.length L.length) 3 1 L.length cells)::.pt sp [pv] 165::mD pv L::.ob (zh iT L)::.mem H::F) w,
   λus _=>match us with|[.int _ i]=>(L.length-i).toNat|_=>0,⟨0,b_ [.int .i64 0] L.length,rfl,by omega,by rw[nO];exact Nat.mul_one _,λj h hj=>by omega,aR hS⟩,?_⟩
  clear hS
  rintro Ux w ⟨i,cells,cW,hi,kH,nH,hS⟩
  cases cW
  refine bW (λh=>?_) (λh=>?_)
  ·have b3:i<ts.length:=by omega
   obtain⟨b0,hb⟩:=Bc hL b3
   refine zV hS Xh w4 hb (by omega) ?_
   unfold td
   refine Gm λb w hS=>?_
   have hS:=zh.take (SL.b4 hS (t:=.ob (zh iT L)::.ob (a_ (.slice (some ⟨nb,0,none⟩) L.length L.length) 3 1 L.length cells)::.pt sp [pv] 165::mD pv L::.mem H::F) Xi) hb
   refine Cc (Q1 b0 ts[i]) ?_;clear hS
   rintro u post ⟨rfl,rfl⟩ w hS
   try simp only[app]at hS
   have hS:=zh.back hS hb
   refine y9 (SL.b4 hS (t:=.ob (a_ (.slice (some ⟨nb,0,none⟩) L.length L.length) 3 1 L.length cells)::.pt sp [pv] 165::mD pv L::.ob (zh iT L)::.mem H::F) Xi) (by omega) rfl λw hS=>?_
   refine Gp ?_
   refine⟨⟨i+1,_,rfl,by omega,by rw[List.length_set];exact kH,λj hj k9=>?_,hS⟩,by dsimp only;omega⟩
   rw[List.getElem?_set]
   by_cases e:i=j
   ·subst e;rw[if_pos rfl,if_pos (by omega)]
   ·rw[if_neg e];exact nH j hj (by omega)
  ·obtain rfl:i=L.length:=by omega
   have DQ:cells=mQ ts:=by
    refine List.ext_getElem? λj=>?_
    rcases Nat.lt_or_ge j ts.length with hj|hj
    ·rw[nH j hj (by omega),FQ hj]
    ·rw[List.getElem?_eq_none (by omega),List.getElem?_eq_none (by rw[Wb];omega)]
   subst DQ
   clear nH kH
   have hS:=iN.put hL hS Xp
   clear hL
   refine zo hv ?_
   have hS:=hS.SB (key:=nL) (val:=Value.bool)
   generalize w.heap.size=mb at *
   generalize w.alloc (.map #[] 0)=w at *
   rw[show mQ ts=mQ (jz ts (l.take 0)) from rfl]at hS
   refine⟨λus w=>∃(i:Nat) (m:List ((Int × Int) × Bool)),us=[.int .i64 i]/\i<=l.length/\Bn ts (jz ts (l.take i)) m/\SL W (.ob (iN sp ts)::.ob (jU nL Value.bool mb m)::.ob (a_ (.slice (some ⟨nb,0,none⟩) L.length L.length) 3 1 L.length (mQ (jz ts (l.take i))))::.mem H::F) w,
    λus _=>match us with|[.int _ i]=>(l.length-i).toNat|_=>0,⟨0,[],rfl,by omega,λp=>rfl,aR hS⟩,?_⟩
   clear hS
   rintro v46 w ⟨i,m,cW,hi,hM,hS⟩
   cases cW
   refine bW (λh=>?_) (λh=>?_)
   ·have b3:i<l.length:=by omega
    have kP:jz ts (l.take (i+1))=mo (jz ts (l.take i)) l[i]:=by rw[List.take_succ_eq_append_getElem b3,FD]
    have oZ:=ha _ (List.getElem_mem b3)
    have nt:=tW ts (l.take i)
    have uk:=Dj (l:=l.take i) hs λc hc=>ha c (List.mem_of_mem_take hc)
    have rW:=Aa 1000000 (l:=l.take i) hn λc hc=>ha c (List.mem_of_mem_take hc)
    have AQ:(l.take i).length<=l.length:=by rw[List.length_take];omega
    generalize jz ts (l.take i)=T at *
    refine zS hS Xh m0 hv (x:=l[i]) (by simp[b3]) b3 ?_
    generalize l[i]=c at *
    obtain⟨ct,ck,cg,cv⟩:=c
    obtain⟨h0,h1⟩:0<=ct/\ct<(ts.length:Int):=of_decide_eq_true oZ
    obtain⟨t,rfl⟩:∃n:Nat,ct=n:=⟨ct.toNat,by omega⟩
    have ht:t<T.length:=by omega
    have lX:t<ts.length:=by omega
    have CC:T[t]∈T:=List.getElem_mem ht
    have ix:=rW _ CC
    have uj:=hM (t,ck)
    have pN:=hM.step uk (c:=⟨t,ck,cg,cv⟩) (by rw[nt];exact oZ)
    have vZ:=bFi (uk _ CC) ⟨t,ck,cg,cv⟩
    simp only at uj pN vZ
    rw[pY T t ht,pY ts t lX]at uj
    rw[<- kP]at pN
    clear hM
    rw[OI]
    refine Gb λcb w hS=>?_
    refine Gb λpb w hS=>?_
    refine bIo (key:=nL) (val:=Value.bool) (z:=.bool false) (k:=((t:Int),ck)) hS Xh Th Tryz.underlying309 (λw=>by kernel_rfl) ?_
    refine Gp ?_
    refine⟨λus w=>us=[.bool (jC T[t] ck).isSome]/\SL W (.pt pb [.int .i64 t,.int .i64 ck] 311::.pt cb [.int .i64 t,.int .i64 ck,.bool cg,.string cv] 82::.ob (iN sp ts)::.ob (jU nL Value.bool mb m)::.ob (a_ (.slice (some ⟨nb,0,none⟩) L.length L.length) 3 1 L.length (mQ T))::.mem H::F) w,?_,?_⟩
    ·cases AI:kV m ((t:Int),ck) with
     | none=>
      rw[AI]at uj
      refine zP (zw ?_)
      have uj:jC T[t] ck=jC ts[t] ck:=uj
      obtain⟨pv,L2,hL,hS⟩:=iN.iff.1 (SL.b4 hS (t:=.ob (iN sp ts)::.pt pb [.int .i64 t,.int .i64 ck] 311::.pt cb [.int .i64 t,.int .i64 ck,.bool cg,.string cv] 82::.ob (jU nL Value.bool mb m)::.ob (a_ (.slice (some ⟨nb,0,none⟩) L.length L.length) 3 1 L.length (mQ T))::.mem H::F) Xi)
      obtain⟨b0,hb⟩:=Bc hL lX
      have b_w:=vx hL
      refine Gn λw hS=>?_
      refine zy hS Xh w4 hb (by omega) (i:=0) rfl ?_
      refine Gp ?_
      have hS:=zh.take (SL.b4 hS (t:=.ob (zh iT L2)::.pt sp [pv] 165::mD pv L2::.pt pb [.int .i64 t,.int .i64 ck] 311::.pt cb [.int .i64 t,.int .i64 ck,.bool cg,.string cv] 82::.ob (jU nL Value.bool mb m)::.ob (a_ (.slice (some ⟨nb,0,none⟩) L.length L.length) 3 1 L.length (mQ T))::.mem H::F) Xi) hb
      refine Cc (QZ b0 ts[t] ck (hs _ (List.getElem_mem lX)) (hn _ (List.getElem_mem lX))) ?_;clear hS
      rintro u post ⟨rfl,rfl⟩ w hS
      try simp only[app]at hS
      have hS:=iN.put hL (zh.back hS hb) Xp
      unfold Pg
      refine Gp ?_
      exact⟨by rw[uj],aR hS⟩
     | some q=>
      rw[AI]at uj
      have uj:(jC T[t] ck).isSome=q:=uj
      refine zP (zq ?_)
      exact⟨by rw[uj];rfl,aR hS⟩
    clear hS
    rintro oK w ⟨cW,hS⟩
    cases cW
    refine Gp ?_
    refine bIq (key:=nL) (val:=Value.bool) (k:=((t:Int),ck)) (v:=!cg) hS Xu Th Tryz.underlying309 λ_ w hS=>?_
    have k8:∀{w:World} {cells:List Value},cells=mQ (jz ts (l.take (i+1)))->SL W (.ob (a_ (.slice (some ⟨nb,0,none⟩) L.length L.length) 3 1 L.length cells)::.ob (iN sp ts)::.ob (jU nL Value.bool mb (ma m ((t:Int),ck) (!cg)))::.mem H::F) w ->
      ∃(i':Nat) (m':List ((Int × Int) × Bool)),[Value.int .i64 ((i+1:Nat):Int)]=[.int .i64 i']/\i'<=l.length/\Bn ts (jz ts (l.take i')) m'/\SL W (.ob (iN sp ts)::.ob (jU nL Value.bool mb m')::.ob (a_ (.slice (some ⟨nb,0,none⟩) L.length L.length) 3 1 L.length (mQ (jz ts (l.take i'))))::.mem H::F) w:=λe hS=>by
     subst e
     exact⟨i+1,_,rfl,by omega,pN,aR hS⟩
    have P2:=FQ ht
    have um:=Of (T:=T) (c:=⟨t,ck,cg,cv⟩) rfl ht
    have AM:=Wc (T:=T) (c:=⟨t,ck,cg,cv⟩) rfl ht
    rw[<- kP]at um AM
    refine⟨λus w=>us=[.bool ((jC T[t] ck).isSome && cg)]/\SL W (.pt cb [.int .i64 t,.int .i64 ck,.bool cg,.string cv] 82::.ob (iN sp ts)::.ob (jU nL Value.bool mb (ma m ((t:Int),ck) (!cg)))::.ob (a_ (.slice (some ⟨nb,0,none⟩) L.length L.length) 3 1 L.length (mQ T))::.mem H::F) w,?_,?_⟩
    ·cases (jC T[t] ck).isSome with
     | false=>
      refine Gp ?_
      exact⟨rfl,aR hS⟩
     | true=>
      refine Gp ?_
      exact⟨by simp,aR hS⟩
    clear hS
    rintro v83 w ⟨cW,hS⟩
    cases cW
    cases hw:(jC T[t] ck).isSome<;>cases cg<;>rw[hw]at vZ
    ·refine zq (zP (zw ?_))
     refine Gp ?_
     refine zw ?_
     refine Gp ?_
     refine z8 hS Xh (by omega) P2 ?_
     refine Gp ?_
     refine y9 (SL.b4 hS (t:=.ob (a_ (.slice (some ⟨nb,0,none⟩) L.length L.length) 3 1 L.length (mQ T))::.ob (iN sp ts)::.ob (jU nL Value.bool mb (ma m ((t:Int),ck) (!false)))::.mem H::F) Xi) (by omega) rfl λw hS=>?_
     refine Gp ?_
     exact⟨k8 (by rw[um];congr 2;simp at vZ;omega) hS,by dsimp only;omega⟩
    ·refine zq (zP (zw ?_))
     refine Gp ?_
     refine zq ?_
     refine Gp ?_
     exact⟨k8 (AM (by simp at vZ;omega)).symm (aR hS),by dsimp only;omega⟩
    ·refine zq (zP (zq ?_))
     refine Gp ?_
     exact⟨k8 (AM (by simp at vZ;omega)).symm (aR hS),by dsimp only;omega⟩
    ·refine zw ?_
     refine Gp ?_
     refine z8 hS Xh (by omega) P2 ?_
     refine Gp ?_
     refine y9 (SL.b4 hS (t:=.ob (a_ (.slice (some ⟨nb,0,none⟩) L.length L.length) 3 1 L.length (mQ T))::.ob (iN sp ts)::.ob (jU nL Value.bool mb (ma m ((t:Int),ck) (!true)))::.mem H::F) Xi) (by omega) rfl λw hS=>?_
     refine Gp ?_
     exact⟨k8 (by rw[um];congr 2;simp at vZ;omega) hS,by dsimp only;omega⟩
   ·obtain rfl:i=l.length:=by omega
    rw[List.take_length]at hS
    have nt:=tW ts l
    generalize jz ts l=T at *
    refine Gp ?_
    refine⟨λus w=>∃j:Nat,us=[.int .i64 j]/\j<=T.length/\(∀k (h:k<T.length),k<j->T[k].length<=1000)/\SL W (.ob (iN sp ts)::.ob (a_ (.slice (some ⟨nb,0,none⟩) L.length L.length) 3 1 L.length (mQ T))::.mem H::F) w,
     λus _=>match us with|[.int _ i]=>(T.length-i).toNat|_=>0,⟨0,rfl,by omega,λk h hk=>by omega,aR hS⟩,?_⟩
    clear hS
    rintro Uv w ⟨j,cW,hj,iz,hS⟩
    cases cW
    refine bW (λh=>?_) (λh=>?_)
    ·have jX:j<T.length:=by omega
     refine z8 hS Xh (by omega) (FQ jX) ?_
     refine bW (λh2=>?_) (λh2=>?_)
     ·rw[hF,show (T.all λC=>decide (C.length<=1000))=false from List.all_eq_false.2 ⟨_,List.getElem_mem jX,by simp;omega⟩]
      (exact eF hS)
     ·refine Gp ?_
      refine⟨⟨j+1,rfl,by omega,λk hk Cj=>?_,hS⟩,by dsimp only;omega⟩
      by_cases e:k=j
      ·subst e;omega
      ·exact iz k hk (by omega)
    ·rw[hF,show (T.all λC=>decide (C.length<=1000))=true from List.all_eq_true.2 λC hC=>by
      obtain⟨k,hk,rfl⟩:=List.getElem_of_mem hC
      exact decide_eq_true (iz k hk (by omega))]
     (exact eF hS)
theorem qe(c:ig)(k:Int):SP 222 [agg (jA c),.int .i64 k] [] (dW (.bool (lF c k)) []):=by
 intro W F w hS;apply b5r;delta K_ aF a7 c_ b7 ai;(try simp only[app]at hS)
 refine zK hS λb w hS=>?_
 unfold jA at hS
 have hF:∀{w:World},¬(0<=c.table/\c.table<k/\1<=c.key/\c.key<=1099511627776/\c.val.size<=32)->SL W (.pt b [.int .i64 c.table,.int .i64 c.key,.bool c.gone,.string c.val] 82::F) w ->
   ∃post,dW (.bool (lF c k)) [] (.bool false) post/\SL W (app post F) w:=λh hS=>⟨_,⟨by rw[show lF c k=false by unfold lF;rw[decide_eq_false_iff_not];exact λk=>h ⟨k.1,k.2.1,k.2.2.1,k.2.2.2.1,k.2.2.2.2.1⟩],rfl⟩,aR hS⟩
 refine Gp ?_
 refine za (λ_=>hF (by omega) hS) (λ_=>?_)
 refine Gp ?_
 refine za (λ_=>hF (by omega) hS) (λ_=>?_)
 refine Gp ?_
 refine za (λ_=>hF (by omega) hS) (λ_=>?_)
 refine Gp ?_
 refine za (λ_=>hF (by omega) hS) (λ_=>?_)
 (repeat (first|refine Gp ?_|refine Gw λw hS=>?_|refine za (λ_=>hF (by omega) hS) (λ_=>?_)|refine za (λ_=>?_) (λ_=>hF (by omega) hS)))
 have e:lF c k=decide (c.gone=true->c.val=emp):=by
  unfold lF
  rw[decide_eq_decide]
  exact⟨λh=>h.2.2.2.2.2,λh=>⟨by omega,by omega,by omega,by omega,by omega,h⟩⟩
 rw[e]
 refine zA (λh=>?_) (λh=>?_)
 ·rw[h,decide_eq_true (by simp)]
  (exact eF hS)
 ·refine Gp ?_
  rw[h]
  have e2:decide (true=true->c.val=emp)=decide (c.val={data:=#[]}):=by rw[decide_eq_decide];exact⟨λh=>h rfl,λh _=>h⟩
  rw[e2]
  (exact eF hS)
theorem Ez{t:dR}(h:¬(1<=t.aI/\t.aI<=1099511627776)):iM t=false:=by
 unfold iM;rw[decide_eq_false h];rfl
theorem AZ{t:dR}(hk:t.kind=1)(h:¬(t.mark=0/\t.changes.length<=16/\t.signals.length<=2)):iM t=false:=by
 unfold iM;rw[if_pos hk,decide_eq_false h];simp
theorem SH{t:dR}{i:Nat}(hk:t.kind=1)(hi:i<t.changes.length)(h:lF t.changes[i] 8=false):iM t=false:=by
 cases hm:iM t with
 | false=>rfl
 | true=>
  rw[(nW hm).2.2.2.2.2.1 _ (List.getElem_mem hi)]at h;cases h
theorem SI{t:dR}{i:Nat}(hk:t.kind=1)(hi:i<t.signals.length)(h:¬t.signals[i].size<=40):iM t=false:=by
 cases hm:iM t with
 | false=>rfl
 | true=>exact absurd ((nW hm).2.2.2.2.2.2 _ (List.getElem_mem hi)) h
theorem SM{t:dR}(hl:1<=t.aI/\t.aI<=1099511627776)(hk:t.kind=1)(h:t.mark=0/\t.changes.length<=16/\t.signals.length<=2)(h1:∀j (hj:j<t.changes.length),lF t.changes[j] 8=true)(h2:∀j (hj:j<t.signals.length),t.signals[j].size<=40):iM t=true:=by
 refine uC.2 ⟨hl,.inl ⟨hk,h.1,h.2.1,h.2.2,λc hc=>?_,λs hs=>?_⟩⟩
 ·obtain⟨j,hj,rfl⟩:=List.getElem_of_mem hc;exact h1 j hj
 ·obtain⟨j,hj,rfl⟩:=List.getElem_of_mem hs;exact h2 j hj
theorem SJ{t:dR}(hl:1<=t.aI/\t.aI<=1099511627776)(hk:t.kind=2\/t.kind=3):iM t=decide (1<=t.mark/\t.mark<=1099511627776/\t.changes.length=0/\t.signals.length=0):=by
 rw[Bool.eq_iff_iff,uC,decide_eq_true_eq]
 simp only[List.length_eq_zero_iff]
 constructor
 ·rintro ⟨_,h|h⟩
  ·omega
  ·exact h.2
 ·exact λh=>⟨hl,.inr ⟨hk,h⟩⟩
theorem SK{t:dR}(h:¬(1<=t.kind/\t.kind<=3)):iM t=false:=by
 cases hm:iM t with
 | false=>rfl
 | true=>exact absurd (nW hm).2.1 h
abbrev oe(b:Nat)(x:oP)(t:dR):Chunk:=.pt b [.int .i64 t.aI,.int .i64 t.kind,x.cv,x.sv,.int .i64 t.mark] 39
theorem qf(H:bw)(x:oP)(t:dR)(hx:mn H x t)(hl:1<=t.aI/\t.aI<=1099511627776)(hk:t.kind=1):SP 144 [agg (iU x)] [.mem H] (dW (.bool (iM t)) [.mem H]):=by
 intro W F w hS;apply b31;delta J_ aF a7 c_ b7 ai cI;(try simp only[app]at hS)
 refine zK hS λxb w hS=>?_
 unfold iU at hS
 rw[hx.aI,hx.kind,hx.mark]at hS
 have hF:∀{w:World},iM t=false->SL W (oe xb x t::.mem H::F) w->∃post,dW (.bool (iM t)) [.mem H] (.bool false) post/\SL W (app post F) w:=λh hS=>⟨_,⟨by rw[h],rfl⟩,aR hS⟩
 refine Gp ?_
 refine za (λh=>hF (AZ hk (by omega)) hS) (λh1=>?_)
 refine Gp ?_
 refine zo hx.cv ?_
 refine Gp ?_
 refine za (λh=>hF (AZ hk (by omega)) hS) (λh2=>?_)
 refine Gp ?_
 refine zo hx.sv ?_
 refine Gp ?_
 refine za (λh=>hF (AZ hk (by omega)) hS) (λh3=>?_)
 refine Gp ?_
 refine zo hx.cv ?_
 refine⟨λvs w=>∃i:Nat,vs=[.int .i64 i]/\i<=t.changes.length/\(∀j (hj:j<t.changes.length),j<i->lF t.changes[j] 8=true)/\SL W (oe xb x t::.mem H::F) w,
  λvs _=>match vs with|[.int _ i]=>(t.changes.length-i).toNat|_=>0,⟨0,rfl,by omega,λj hj h=>by omega,hS⟩,?_⟩
 clear hS
 rintro v3 w ⟨i,jy,hi,iz,hS⟩
 cases jy
 refine bW (λh=>?_) (λh=>?_)
 ·have b3:i<t.changes.length:=by omega
  refine zS hS Xh m0 hx.cv (x:=t.changes[i]) (by simp[b3]) b3 ?_
  refine Gm λb w hS=>?_
  refine Cg (qe t.changes[i] 8) λw hS=>?_
  refine zA (λh=>hF (SH hk b3 h) (aR hS)) (λh=>?_)
  refine Gp ?_
  refine⟨⟨i+1,rfl,by omega,λj hj k9=>?_,aR hS⟩,by dsimp only;omega⟩
  by_cases e:j=i
  ·subst e;exact h
  ·exact iz j hj (by omega)
 ·have mS:i=t.changes.length:=by omega
  have iO:∀j (hj:j<t.changes.length),lF t.changes[j] 8=true:=λj hj=>iz j hj (by omega)
  clear iz
  refine Gp ?_
  refine zo hx.sv ?_
  refine⟨λvs w=>∃i:Nat,vs=[.int .i64 i]/\i<=t.signals.length/\(∀j (hj:j<t.signals.length),j<i->t.signals[j].size<=40)/\SL W (oe xb x t::.mem H::F) w,
   λvs _=>match vs with|[.int _ i]=>(t.signals.length-i).toNat|_=>0,⟨0,rfl,by omega,λj hj h=>by omega,aR hS⟩,?_⟩
  clear hS
  rintro v5 w ⟨i,jy,hi,iz,hS⟩
  cases jy
  refine bW (λh=>?_) (λh=>?_)
  ·have b3:i<t.signals.length:=by omega
   refine yS hS Xh hx.sv b3 (u:=.string t.signals[i]) (by simp[b3]) ?_
   refine Gp ?_
   refine za (λh=>hF (SI hk b3 (by omega)) (aR hS)) (λh=>?_)
   refine Gp ?_
   refine⟨⟨i+1,rfl,by omega,λj hj k9=>?_,aR hS⟩,by dsimp only;omega⟩
   by_cases e:j=i
   ·subst e;omega
   ·exact iz j hj (by omega)
  ·rw[SM hl hk (by omega) iO λj hj=>iz j hj (by omega)]
   (exact eF hS)
theorem yu(H:bw)(x:oP)(t:dR)(hx:mn H x t):SP 61 [agg (iU x)] [.mem H] (dW (.bool (iM t)) [.mem H]):=by
 intro W F w hS;apply b8x;delta M0 aF a7 b7 ai;(try simp only[app]at hS)
 refine zK hS λxb w hS=>?_
 unfold iU at hS
 rw[hx.aI,hx.kind,hx.mark]at hS
 have hF:∀{w:World},iM t=false->SL W (oe xb x t::.mem H::F) w->∃post,dW (.bool (iM t)) [.mem H] (.bool false) post/\SL W (app post F) w:=λh hS=>⟨_,⟨by rw[h],rfl⟩,aR hS⟩
 refine Gp ?_
 refine za (λh=>hF (Ez (by omega)) hS) (λh1=>?_)
 refine Gp ?_
 refine za (λh=>hF (Ez (by omega)) hS) (λh2=>?_)
 refine bW (λhk=>?_) (λhk=>?_)
 ·refine Gp ?_
  have mI:mn H ⟨t.aI,t.kind,x.cv,x.sv,t.mark⟩ t:=⟨rfl,rfl,rfl,hx.cv,hx.sv⟩
  refine Cg (qf H ⟨t.aI,t.kind,x.cv,x.sv,t.mark⟩ t mI (by omega) hk) λw hS=>?_
  (exact eF hS)
 ·refine⟨λvs w=>vs=[.bool (decide (t.kind=2\/t.kind=3))]/\SL W (oe xb x t::.mem H::F) w,?_,?_⟩
  ·refine Gp ?_
   refine za (λh=>⟨by rw[decide_eq_true (Or.inl h)],hS⟩) (λh=>?_)
   refine Gp ?_
   exact⟨by rw[show decide (t.kind=3)=decide (t.kind=2\/t.kind=3) from decide_eq_decide.2 ⟨Or.inr,λh'=>by omega⟩],hS⟩
  clear hS
  rintro E8 w ⟨hv,hS⟩
  cases hv
  refine za (λow=>?_) (λow=>hF (SK (by omega)) hS)
  have hM:=SJ (t:=t) (by omega) ow
  have vV:∀{w:World},¬(1<=t.mark/\t.mark<=1099511627776/\t.changes.length=0/\t.signals.length=0)->SL W (oe xb x t::.mem H::F) w->∃post,dW (.bool (iM t)) [.mem H] (.bool false) post/\SL W (app post F) w:=λh hS=>hF (by rw[hM,decide_eq_false h]) hS
  refine Gp ?_
  refine za (λh3=>?_) (λh3=>vV (by omega) hS)
  refine Gp ?_
  refine za (λh4=>?_) (λh4=>vV (by omega) hS)
  refine Gp ?_
  refine zo hx.cv ?_
  refine Gp ?_
  refine za (λh5=>?_) (λh5=>vV (by omega) hS)
  refine Gp ?_
  refine zo hx.sv ?_
  refine Gp ?_
  rw[hM,show decide (1<=t.mark/\t.mark<=1099511627776/\t.changes.length=0/\t.signals.length=0)=decide ((t.signals.length:Int)=0) from decide_eq_decide.2 ⟨λh=>by omega,λh=>by omega⟩]
  (exact eF hS)
theorem y0(H:bw)(x:oP)(t:dR)(hx:mn H x t):SP 89 [agg (iU x)] [.mem H] (dW (.bool (iM t)) [.mem H]):=by
 intro W F w hS;apply b9i;delta Nm aF a7 c_ b7 ai;(try simp only[app]at hS)
 refine zK hS λxb w hS=>?_
 unfold iU at hS
 rw[hx.aI,hx.kind,hx.mark]at hS
 have hF:∀{w:World},iM t=false->SL W (oe xb x t::.mem H::F) w->∃post,dW (.bool (iM t)) [.mem H] (.bool false) post/\SL W (app post F) w:=λh hS=>⟨_,⟨by rw[h],rfl⟩,aR hS⟩
 refine Gp ?_
 refine za (λh=>hF (Ez (by omega)) hS) (λh1=>?_)
 refine Gp ?_
 refine za (λh=>hF (Ez (by omega)) hS) (λh2=>?_)
 refine bW (λhk=>?_) (λhk=>?_)
 ·refine Gp ?_
  refine za (λh=>hF (AZ hk (by omega)) hS) (λh1=>?_)
  refine Gp ?_
  refine zo hx.cv ?_
  refine Gp ?_
  refine za (λh=>hF (AZ hk (by omega)) hS) (λh2=>?_)
  refine Gp ?_
  refine zo hx.sv ?_
  refine Gp ?_
  refine za (λh=>hF (AZ hk (by omega)) hS) (λh3=>?_)
  refine⟨λvs w=>∃i:Nat,vs=[.int .i64 i]/\i<=t.changes.length/\(∀j (hj:j<t.changes.length),j<i->lF t.changes[j] 8=true)/\SL W (oe xb x t::.mem H::F) w,
   λvs _=>match vs with|[.int _ i]=>(t.changes.length-i).toNat|_=>0,⟨0,rfl,by omega,λj hj h=>by omega,hS⟩,?_⟩
  clear hS
  rintro v3 w ⟨i,jy,hi,iz,hS⟩
  cases jy
  refine Gp ?_
  refine zo hx.cv ?_
  refine bW (λh=>?_) (λh=>?_)
  ·have b3:i<t.changes.length:=by omega
   refine Gp ?_
   refine zS hS Xh m0 hx.cv (x:=t.changes[i]) (by simp[b3]) b3 ?_
   refine Cg (qn t.changes[i] 8) λw hS=>?_
   refine zA (λh=>hF (SH hk b3 h) (aR hS)) (λh=>?_)
   refine Gp ?_
   refine⟨⟨i+1,rfl,by omega,λj hj k9=>?_,aR hS⟩,by dsimp only;omega⟩
   by_cases e:j=i
   ·subst e;exact h
   ·exact iz j hj (by omega)
  ·have mS:i=t.changes.length:=by omega
   have iO:∀j (hj:j<t.changes.length),lF t.changes[j] 8=true:=λj hj=>iz j hj (by omega)
   clear iz
   refine⟨λvs w=>∃i:Nat,vs=[.int .i64 i]/\i<=t.signals.length/\(∀j (hj:j<t.signals.length),j<i->t.signals[j].size<=40)/\SL W (oe xb x t::.mem H::F) w,
    λvs _=>match vs with|[.int _ i]=>(t.signals.length-i).toNat|_=>0,⟨0,rfl,by omega,λj hj h=>by omega,aR hS⟩,?_⟩
   clear hS
   rintro v5 w ⟨i,jy,hi,iz,hS⟩
   cases jy
   refine Gp ?_
   refine zo hx.sv ?_
   refine bW (λh=>?_) (λh=>?_)
   ·have b3:i<t.signals.length:=by omega
    refine Gp ?_
    refine yS hS Xh hx.sv b3 (u:=.string t.signals[i]) (by simp[b3]) ?_
    refine Gp ?_
    refine za (λh=>hF (SI hk b3 (by omega)) (aR hS)) (λh=>?_)
    refine Gp ?_
    refine⟨⟨i+1,rfl,by omega,λj hj k9=>?_,aR hS⟩,by dsimp only;omega⟩
    by_cases e:j=i
    ·subst e;omega
    ·exact iz j hj (by omega)
   ·rw[SM (by omega) hk (by omega) iO λj hj=>iz j hj (by omega)]
    (exact eF hS)
 ·refine⟨λvs w=>vs=[.bool (decide (t.kind=2\/t.kind=3))]/\SL W (oe xb x t::.mem H::F) w,?_,?_⟩
  ·refine Gp ?_
   refine za (λh=>⟨by rw[decide_eq_true (Or.inl h)],hS⟩) (λh=>?_)
   refine Gp ?_
   exact⟨by rw[show decide (t.kind=3)=decide (t.kind=2\/t.kind=3) from decide_eq_decide.2 ⟨Or.inr,λh'=>by omega⟩],hS⟩
  clear hS
  rintro E8 w ⟨hv,hS⟩
  cases hv
  refine za (λow=>?_) (λow=>hF (SK (by omega)) hS)
  have hM:=SJ (t:=t) (by omega) ow
  have vV:∀{w:World},¬(1<=t.mark/\t.mark<=1099511627776/\t.changes.length=0/\t.signals.length=0)->SL W (oe xb x t::.mem H::F) w->∃post,dW (.bool (iM t)) [.mem H] (.bool false) post/\SL W (app post F) w:=λh hS=>hF (by rw[hM,decide_eq_false h]) hS
  refine Gp ?_
  refine za (λh3=>?_) (λh3=>vV (by omega) hS)
  refine Gp ?_
  refine za (λh4=>?_) (λh4=>vV (by omega) hS)
  refine Gp ?_
  refine zo hx.cv ?_
  refine Gp ?_
  refine za (λh5=>?_) (λh5=>vV (by omega) hS)
  refine Gp ?_
  refine zo hx.sv ?_
  refine Gp ?_
  rw[hM,show decide (1<=t.mark/\t.mark<=1099511627776/\t.changes.length=0/\t.signals.length=0)=decide ((t.signals.length:Int)=0) from decide_eq_decide.2 ⟨λh=>by omega,λh=>by omega⟩]
  (exact eF hS)
section
variable (b:Nat) (x1 x2 x3:Int) (t:TypeId)
theorem aIw:SP 225 [.slice (some ⟨b,0,none⟩) 3 3] [.pt b [.int .i64 x1,.int .i64 x2,.int .i64 x3] t] (λu post=>post=[mj u [iF x1,iF x2,iF x3]]):=Zw b [x1,x2,x3] t (by simp)
end
def vC(H:bw)(t:dR)(u:Value)(post:List Chunk):Prop:=match t_ t with
 | .error e=>u= .tuple #[.slice none 0 0,.int .i64 e]/\post=[.mem H]
 | .ok b=>∃v,u= .tuple #[v,.int .i64 0]/\post=[.ob (a_ v 5 1 b.length (b.map cR)),.mem H]
def om(t:dR)(i:Nat):List gW:=[iF t.aI,iF t.kind,iF t.mark,iF t.changes.length]++((t.changes.take i).map pj).flatten
def pK(t:dR)(i:Nat):List gW:=om t t.changes.length++[iF t.signals.length]++(t.signals.take i).map tF
theorem OW{t:dR}{i:Nat}(h:i<t.changes.length):om t (i+1)=om t i++pj t.changes[i]:=by
 unfold om;rw[List.take_succ_eq_append_getElem h,List.map_append,List.flatten_append,List.map_singleton,List.flatten_singleton,List.append_assoc]
theorem OZ{t:dR}{i:Nat}(h:i<t.signals.length):pK t (i+1)=pK t i++[tF t.signals[i]]:=by
 unfold pK;rw[List.take_succ_eq_append_getElem h,List.map_append,List.map_singleton,<- List.append_assoc]
theorem OX(t:dR):pK t t.signals.length=mG t:=by
 unfold pK om mG;simp
theorem Ge(t:dR)(i:Nat):(om t i).length<=4+4*i:=by
 unfold om
 rw[List.length_append,Xg (n:=4) (λ_=>rfl),List.length_take]
 simp;omega
theorem OY(t:dR)(i:Nat):(pK t i).length<=5+4*t.changes.length+i:=by
 have:=Ge t t.changes.length
 unfold pK
 rw[List.length_append,List.length_append,List.length_map,List.length_take]
 simp;omega
theorem qW(H:bw)(x:oP)(t:dR)(hx:mn H x t):SP 146 [agg (iU x)] [.mem H] (vC H t):=by
 intro W F w hS;apply b33;delta Kb aF a7 aW c_ ai cI bI;(try simp only[app]at hS)
 refine zK hS λxb w hS=>?_
 refine Gp ?_
 refine Cg (yu H x t hx) λw hS=>?_
 refine zA (λh=>?_) (λhm=>?_)
 ·exact⟨[.mem H],by unfold vC t_;rw[if_neg (by rw[h];decide)];exact⟨rfl,rfl⟩,aR hS⟩
 have hb:=nW hm
 unfold iU at hS
 rw[hx.aI,hx.kind,hx.mark]at hS
 refine Gp ?_
 refine zo hx.cv ?_
 refine Gm λb w hS=>?_
 refine Cc (aIx b t.aI t.kind t.mark t.changes.length 2) ?_;clear hS
 rintro u post rfl w hS
 (try simp only[app]at hS);refine Gp ?_
 refine zo hx.cv ?_
 have hS:SL W (mj u (om t 0)::_) _:=hS
 refine⟨λvs w=>∃(i:Nat) (u:Value),vs=[u,.int .i64 i]/\i<=t.changes.length/\SL W (mj u (om t i)::oe xb x t::.mem H::F) w,
  λvs _=>match vs with|[_,.int _ i]=>(t.changes.length-i).toNat|_=>0,⟨0,_,rfl,by omega,aR hS⟩,?_⟩
 clear hS
 rintro u v3 w ⟨i,_,jy,hi,hS⟩
 cases jy
 have uh:=Ge t i
 refine bW (λh=>?_) (λh=>?_)
 ·have b3:i<t.changes.length:=by omega
  have hs:=OW b3
  refine zS hS Xh m0 hx.cv (x:=t.changes[i]) (by simp[b3]) b3 ?_
  generalize t.changes[i]=o at *
  obtain⟨ot,ok,og,ov⟩:=o
  refine Gm λb w hS=>?_
  unfold jA at hS
  refine Cg (a78 og) λw hS=>?_;refine Gm λb w hS=>?_
  refine Cc (aIw b ot ok (rO og) 2) ?_;clear hS
  rintro u2 post rfl w hS
  try simp only[app]at hS
  refine yB (L:=om t i) hS Xr (pW hS Xh) (by simp;omega) λu3 w hS=>?_
  refine Gp ?_
  refine Cg (ZZ ov) λw hS=>?_;refine Gm λb w hS=>?_
  refine yB (M:=[tF ov]) hS Xr (CY hS Xh) (by simp;omega) λu4 w hS=>?_
  refine Gp ?_
  refine⟨⟨i+1,_,rfl,by omega,?_⟩,by dsimp only;omega⟩
  rw[hs]
  simp only[List.append_assoc]at hS
  have hS:SL W (mj _ (om t i++pj ⟨ot,ok,og,ov⟩)::_) _:=hS
  exact aR hS
 ·have mS:i=t.changes.length:=by omega
  subst mS
  refine Gp ?_
  refine zo hx.sv ?_
  refine Gm λb w hS=>?_
  refine Cc (aIv b t.signals.length 2) ?_;clear hS
  rintro u2 post rfl w hS
  try simp only[app]at hS
  refine yB (L:=om t t.changes.length) hS Xr (pW hS Xh) (by simp;omega) λu3 w hS=>?_
  refine Gp ?_
  refine zo hx.sv ?_
  refine⟨λvs w=>∃(i:Nat) (u:Value),vs=[u,.int .i64 i]/\i<=t.signals.length/\SL W (mj u (pK t i)::oe xb x t::.mem H::F) w,
   λvs _=>match vs with|[_,.int _ i]=>(t.signals.length-i).toNat|_=>0,⟨0,u3,rfl,by omega,?_⟩,?_⟩
  ·rw[show pK t 0=om t t.changes.length++[iF t.signals.length] by unfold pK;simp]
   exact aR hS
  clear hS
  rintro u v3 w ⟨i,_,jy,hi,hS⟩
  cases jy
  have DH:=OY t i
  refine bW (λh=>?_) (λh=>?_)
  ·have b3:i<t.signals.length:=by omega
   have hs:=OZ b3
   refine yS hS Xh hx.sv b3 (u:=.string t.signals[i]) (by simp[b3]) ?_
   refine Cg (ZZ t.signals[i]) λw hS=>?_;refine Gm λb w hS=>?_
   refine yB (L:=pK t i) (M:=[tF t.signals[i]]) hS Xr (CY hS Xh) (by simp;omega) λu3 w hS=>?_
   refine Gp ?_
   refine⟨⟨i+1,_,rfl,by omega,?_⟩,by dsimp only;omega⟩
   rw[hs]
   exact aR hS
  ·have mS:i=t.signals.length:=by omega
   subst mS
   rw[OX]at hS DH
   refine Cc (ZF (mj u (mG t)) u (mG t) pZ.own (by omega)) ?_;clear hS
   rintro r post hq w hS
   try simp only[app]at hS
   unfold rI at hq
   unfold vC t_
   rw[if_pos hm]
   cases he:oS (mG t) with
   | error e=>
    rw[he]at hq
    obtain⟨rfl,rfl⟩:=hq
    (try simp only[app]at hS);refine Gp ?_
    exact eF hS
   | ok bs=>
    rw[he]at hq
    obtain⟨v,rfl,rfl⟩:=hq
    (try simp only[app]at hS);refine Gp ?_
    exact⟨_,⟨v,rfl,rfl⟩,aR hS⟩
theorem Qm(H:bw)(x:oP)(t:dR)(hx:mn H x t):SP 183 [agg (iU x)] [.mem H] (vC H t):=by
 intro W F w hS;apply b4z;delta KH aF a7 aW c_ ai cI bI;(try simp only[app]at hS)
 refine zK hS λxb w hS=>?_
 refine Gp ?_
 refine Cg (y0 H x t hx) λw hS=>?_
 refine zA (λh=>?_) (λhm=>?_)
 ·exact⟨[.mem H],by unfold vC t_;rw[if_neg (by rw[h];decide)];exact⟨rfl,rfl⟩,aR hS⟩
 have hb:=nW hm
 unfold iU at hS
 rw[hx.aI,hx.kind,hx.mark]at hS
 refine Gn λw hS=>?_
 refine zo hx.cv ?_
 refine Cg (zM t.aI) λw hS=>?_
 refine Cg (zM t.kind) λw hS=>?_
 refine Cg (zM t.mark) λw hS=>?_
 refine Cg (zM t.changes.length) λw hS=>?_
 refine zz hS (O5 (iF t.aI) (iF t.kind) (iF t.mark) (iF t.changes.length)) λb w hS=>?_
 have hS:=a_.full (n:=4) (sz:=3) rfl hS
 have hS:SL W (mj _ (om t 0)::_) _:=hS
 refine⟨λvs w=>∃(i:Nat) (u:Value),vs=[u,.int .i64 i]/\i<=t.changes.length/\SL W (mj u (om t i)::oe xb x t::.mem H::F) w,
  λvs _=>match vs with|[_,.int _ i]=>(t.changes.length-i).toNat|_=>0,⟨0,_,rfl,by omega,aR hS⟩,?_⟩
 clear hS
 rintro u v3 w ⟨i,_,jy,hi,hS⟩
 cases jy
 have uh:=Ge t i
 refine Gp ?_
 refine zo hx.cv ?_
 refine bW (λh=>?_) (λh=>?_)
 ·have b3:i<t.changes.length:=by omega
  have hs:=OW b3
  refine Gp ?_
  refine zS hS Xh m0 hx.cv (x:=t.changes[i]) (by simp[b3]) b3 ?_
  refine Cc (bw6 t.changes[i]) ?_;clear hS
  rintro u2 post rfl w hS
  try simp only[app]at hS
  refine yB (L:=om t i) hS Xr (pW hS Xh) (by simp[pj];omega) λu4 w hS=>?_
  refine Gp ?_
  refine⟨⟨i+1,_,rfl,by omega,?_⟩,by dsimp only;omega⟩
  rw[hs]
  exact aR hS
 ·have mS:i=t.changes.length:=by omega
  subst mS
  refine Gp ?_
  refine zo hx.sv ?_
  refine Cg (zM t.signals.length) λw hS=>?_;refine Gm λb w hS=>?_
  refine yB (L:=om t t.changes.length) (M:=[iF t.signals.length]) hS Xr (CY hS Xh) (by simp;omega) λu3 w hS=>?_
  refine⟨λvs w=>∃(i:Nat) (u:Value),vs=[u,.int .i64 i]/\i<=t.signals.length/\SL W (mj u (pK t i)::oe xb x t::.mem H::F) w,
   λvs _=>match vs with|[_,.int _ i]=>(t.signals.length-i).toNat|_=>0,⟨0,u3,rfl,by omega,?_⟩,?_⟩
  ·rw[show pK t 0=om t t.changes.length++[iF t.signals.length] by unfold pK;simp]
   exact aR hS
  clear hS
  rintro u v3 w ⟨i,_,jy,hi,hS⟩
  cases jy
  have DH:=OY t i
  refine Gp ?_
  refine zo hx.sv ?_
  refine bW (λh=>?_) (λh=>?_)
  ·have b3:i<t.signals.length:=by omega
   have hs:=OZ b3
   refine Gp ?_
   refine yS hS Xh hx.sv b3 (u:=.string t.signals[i]) (by simp[b3]) ?_
   refine Cg (Za t.signals[i]) λw hS=>?_;refine Gm λb w hS=>?_
   refine yB (L:=pK t i) (M:=[tF t.signals[i]]) hS Xr (CY hS Xh) (by simp;omega) λu3 w hS=>?_
   refine Gp ?_
   refine⟨⟨i+1,_,rfl,by omega,?_⟩,by dsimp only;omega⟩
   rw[hs]
   exact aR hS
  ·have mS:i=t.signals.length:=by omega
   subst mS
   rw[OX]at hS DH
   refine Cc (yQ (mj u (mG t)) u (mG t) pZ.own (by omega)) ?_;clear hS
   rintro r post hq w hS
   try simp only[app]at hS
   unfold rI at hq
   unfold vC t_
   rw[if_pos hm]
   cases he:oS (mG t) with
   | error e=>
    rw[he]at hq
    obtain⟨rfl,rfl⟩:=hq
    (try simp only[app]at hS);refine Gp ?_
    exact eF hS
   | ok bs=>
    rw[he]at hq
    obtain⟨v,rfl,rfl⟩:=hq
    (try simp only[app]at hS);refine Gp ?_
    exact⟨_,⟨v,rfl,rfl⟩,aR hS⟩
structure rG{α:Type}(one:cF->α × cF)(n:Nat)(r0:cF)(xs:List α)(k:Nat)(r:cF):Prop where
 eq:iY one n r0=(xs++(iY one k r).1,(iY one k r).2)
 le:xs.length+k<=n
theorem rG.start{α:Type}(one:cF->α × cF)(n:Nat)(r:cF):rG one n r [] n r:=⟨rfl,by simp⟩
theorem rG.step{α:Type}{one:cF->α × cF}{n:Nat}{r0:cF}{xs:List α}{k:Nat}{r:cF}(h:rG one n r0 xs (k+1) r):rG one n r0 (xs++[(one r).1]) k (one r).2:=
 ⟨by rw[h.eq];simp[iY],by have:=h.le;rw[List.length_append,List.length_singleton];omega⟩
theorem rG.stop{α:Type}{one:cF->α × cF}{n:Nat}{r0:cF}{xs:List α}{r:cF}(h:rG one n r0 xs 0 r):iY one n r0=(xs,r):=by
 rw[h.eq];simp[iY]
theorem YI(rp:Nat)(r:cF):SP 161 [.pointer (some ⟨rp,0,none⟩)] [.ob (j9 rp r)] (dW (agg (jA (mP r).1)) [.ob (j9 rp (mP r).2)]):=by
 intro W F w hS;apply b4g;delta Ko ai cI;(try simp only[app]at hS)
 refine Gm λb w hS=>?_
 refine Cg (zY rp r 8) λw hS=>?_
 refine Cg (yD rp _) λw hS=>?_
 refine Cg (qT rp _) λw hS=>?_
 refine Cg (yY rp _) λw hS=>?_
 simp only[mP]
 exact eF hS
theorem sA{aI kind mark:Int}{cv sv:Value}(h1:cv.oneCell'=true)(h2:sv.oneCell'=true):∀v∈iU ⟨aI,kind,cv,sv,mark⟩,v.oneCell'=true:=by
 intro v hv
 simp only[iU,List.mem_cons,List.not_mem_nil,or_false]at hv
 rcases hv with rfl|rfl|rfl|rfl|rfl
 ·rfl
 ·rfl
 ·exact h1
 ·exact h2
 ·rfl
def uI:oP:=⟨0,0,.slice none 0 0,.slice none 0 0,0⟩
abbrev vI(b:Nat):Chunk:=.pt b [.int .i64 0,.int .i64 0,.slice none 0 0,.slice none 0 0,.int .i64 0] 39
def sj(X:Chunk)(H:bw)(b:List UInt8)(u:Value)(post:List Chunk):Prop:=match l6 b with
 | .error e=>e≠0/\∃H',H.le H'/\u= .tuple #[agg (iU uI),.int .i64 e]/\post=[X,.mem H']
 | .ok t=>∃x H',H.le H'/\u= .tuple #[agg (iU x),.int .i64 0]/\mn H' x t/\post=[X,.mem H']
theorem Ou{b:List UInt8}{e:Int}(h:lu b= .error e):l6 b= .error e:=by unfold l6;rw[h]
theorem Wy{b:List UInt8}{l:List gW}(h:lu b= .ok l)(h2:¬((mW ⟨l,false⟩).2.bad=false/\(mW ⟨l,false⟩).2.l=[]/\iM (mW ⟨l,false⟩).1=true)):l6 b= .error 3:=by
 unfold l6 vM;rw[h];simp only;rw[if_neg h2]
theorem Wx{b:List UInt8}{l:List gW}(h:lu b= .ok l)(h2:(mW ⟨l,false⟩).2.bad=false/\(mW ⟨l,false⟩).2.l=[]/\iM (mW ⟨l,false⟩).1=true):l6 b= .ok (mW ⟨l,false⟩).1:=by
 unfold l6 vM;rw[h];simp only;rw[if_pos h2]
abbrev tP(v:Value)(l:List ig):Chunk:=.ob (a_ v 82 4 l.length (l.map jA).flatten)
abbrev tU(v:Value)(l:List ByteArray):Chunk:=.ob (a_ v 9 1 l.length (l.map λs=>[Value.string s]).flatten)
theorem Ud(l:List ByteArray):(l.map λs=>[Value.string s]).flatten=l.map Value.string:=by
 induction l with
 | nil=>rfl
 | cons a l ih=>simp[ih]
structure Fv(l:List gW)(aI kind mark:Int)(r3:cF):Prop where
 aI:(mW ⟨l,false⟩).1.aI=aI
 kind:(mW ⟨l,false⟩).1.kind=kind
 mark:(mW ⟨l,false⟩).1.mark=mark
 ch:(mW ⟨l,false⟩).1.changes=(iY mP (iA 16 r3).1.toNat (iA 16 r3).2).1
 sg:∀r4,(iY mP (iA 16 r3).1.toNat (iA 16 r3).2).2=r4->(mW ⟨l,false⟩).1.signals=(iY iV (iA 2 r4).1.toNat (iA 2 r4).2).1/\(mW ⟨l,false⟩).2=(iY iV (iA 2 r4).1.toNat (iA 2 r4).2).2
theorem Fv.is(l:List gW):Fv l (j7 ⟨l,false⟩).1 (iA 3 (j7 ⟨l,false⟩).2).1 (j7 (iA 3 (j7 ⟨l,false⟩).2).2).1 (j7 (iA 3 (j7 ⟨l,false⟩).2).2).2:=⟨rfl,rfl,rfl,rfl,λr4 h=>by subst h;exact⟨rfl,rfl⟩⟩
theorem qV(X:Chunk)(H:bw)(v:Value)(bs:List UInt8)(hv:ie X v bs):SP 72 [v] [X,.mem H] (sj X H bs):=by
 intro W F w hS;apply b86;delta M_ aF aW c_ ai cI bI;(try simp only[app]at hS)
 refine Gb λzb w hS=>?_
 refine Cc (yW X v bs hv) ?_;clear hS
 rintro r post hq w hS
 unfold rH at hq
 cases hd:lu bs with
 | error e=>
  rw[hd]at hq
  obtain⟨rfl,rfl⟩:=hq
  have he:=Dr hd
  (try simp only[app]at hS);refine Gp ?_
  refine za (λ_=>?_) (λh=>absurd he h)
  refine Gn λw hS=>?_
  exact⟨[X,.mem H],by unfold sj;rw[Ou hd];exact⟨he,H,bw.le_refl H,rfl,rfl⟩,aR hS⟩
 | ok l=>
  rw[hd]at hq
  obtain⟨lv,rfl,rfl⟩:=hq
  (try simp only[app]at hS);refine Gp ?_
  refine za (λh=>absurd rfl h) (λ_=>?_)
  refine Cc (ZY lv l) ?_;clear hS
  rintro _ post ⟨rp,rfl,rfl⟩ w hS
  try simp only[app]at hS
  refine Cc (yD rp ⟨l,false⟩) ?_;clear hS
  rintro v1 post ⟨rfl,rfl⟩ w hS
  try simp only[app]at hS
  refine Cc (zY rp _ 3) ?_;clear hS
  rintro v1 post ⟨rfl,rfl⟩ w hS
  try simp only[app]at hS
  refine Cc (yD rp _) ?_;clear hS
  rintro v1 post ⟨rfl,rfl⟩ w hS
  try simp only[app]at hS
  have hI:=Fv.is l
  generalize (j7 (iA 3 (j7 ⟨l,false⟩).2).2).1=mark at *
  generalize (j7 (iA 3 (j7 ⟨l,false⟩).2).2).2=r3 at *
  generalize (iA 3 (j7 ⟨l,false⟩).2).1=kind at *
  generalize (j7 ⟨l,false⟩).1=aI at *
  have tB:=EU (m:=16) (by decide) r3
  refine Gp ?_
  refine Gb λxb w hS=>?_
  have hS:SL W (tP (.slice none 0 0) []::_) _:=a_.nil hS
  have hS:SL W (tU (.slice none 0 0) []::_) _:=a_.nil hS
  refine Cc (zY rp r3 16) ?_;clear hS
  rintro v1 post ⟨rfl,rfl⟩ w hS
  try simp only[app]at hS
  have na:=hI.ch
  have we:=hI.sg
  generalize (iA 16 r3).1=n1 at *
  generalize (iA 16 r3).2=r2 at *
  refine⟨λus w=>∃(k:Nat) (kM:List ig) (r:cF) (cv:Value),us=[.int .i64 k]/\rG mP n1.toNat r2 kM k r/\SL W (tP cv kM::.ob (j9 rp r)::tU (.slice none 0 0) []::.pt xb [.int .i64 aI,.int .i64 kind,cv,.slice none 0 0,.int .i64 mark] 39::vI zb::X::.mem H::F) w,
   λus _=>match us with|[.int _ i]=>i.toNat|_=>0,⟨n1.toNat,[],r2,.slice none 0 0,by rw[show ((n1.toNat:Nat):Int)=n1 by omega],rG.start _ _ _,aR hS⟩,?_⟩
  clear hS
  rintro v8 w ⟨k,kM,r,cv,cW,hM,hS⟩
  cases cW
  have hle:=hM.le
  refine bW (λh=>?_) (λh=>?_)
  ·obtain⟨k,rfl⟩:∃j,k=j+1:=⟨k-1,by omega⟩
   have hM:=hM.step
   refine Gn λw hS=>?_
   refine Cg (YI rp r) λw hS=>?_;refine Gm λb w hS=>?_
   refine yy (n:=kM.length) (xs:=kM) (y:=(mP r).1) (enc:=jA) hS Xr Xh m0 (λx=>F5 x) rfl (by omega) (by omega) λu w hS=>?_
   have h1:=a_.one hS
   refine Gn λw hS=>?_
   refine⟨⟨k,_,_,u,by rw[show ((k+1:Nat):Int)-1=(k:Int) by omega],hM,?_⟩,by dsimp only;omega⟩
   have hS:=hS.sS (x:=(mP r).1)
   exact aR hS
  ·obtain rfl:k=0:=by omega
   rw[hM.stop]at na we
   obtain⟨AN,gw⟩:=we r rfl
   have Hh:=EU (m:=2) (by decide) r
   refine Cc (zY rp r 2) ?_;clear hS
   rintro v1 post ⟨rfl,rfl⟩ w hS
   try simp only[app]at hS
   generalize (iA 2 r).1=n2 at *
   generalize (iA 2 r).2=r5 at *
   refine⟨λus w=>∃(k:Nat) (sh:List ByteArray) (r:cF) (sv:Value),us=[.int .i64 k]/\rG iV n2.toNat r5 sh k r/\SL W (tU sv sh::.ob (j9 rp r)::tP cv kM::.pt xb [.int .i64 aI,.int .i64 kind,cv,sv,.int .i64 mark] 39::vI zb::X::.mem H::F) w,
    λus _=>match us with|[.int _ i]=>i.toNat|_=>0,⟨n2.toNat,[],r5,.slice none 0 0,by rw[show ((n2.toNat:Nat):Int)=n2 by omega],rG.start _ _ _,aR hS⟩,?_⟩
   clear hS
   rintro v8 w ⟨k,sh,r,sv,cW,pN,hS⟩
   cases cW
   have hle:=pN.le
   refine bW (λh=>?_) (λh=>?_)
   ·obtain⟨k,rfl⟩:∃j,k=j+1:=⟨k-1,by omega⟩
    have pN:=pN.step
    refine Gn λw hS=>?_
    refine Cg (yY rp r) λw hS=>?_;refine Gm λb w hS=>?_
    refine yy (n:=sh.length) (xs:=sh) (y:=(iV r).1) (enc:=λs=>[Value.string s]) hS Xr Xh (λ_=>rfl) (by simp[Value.oneCell']) rfl (by omega) (by omega) λu w hS=>?_
    have h1:=a_.one hS
    refine Gn λw hS=>?_
    refine⟨⟨k,_,_,u,by rw[show ((k+1:Nat):Int)-1=(k:Int) by omega],pN,?_⟩,by dsimp only;omega⟩
    have hS:=hS.sS (x:=(iV r).1)
    exact aR hS
   ·obtain rfl:k=0:=by omega
    rw[pN.stop]at AN gw
    have ny:=hI.aI
    have G5:=hI.kind
    have Hb:=hI.mark
    have na:(mW ⟨l,false⟩).1.changes=kM:=na
    have AN:(mW ⟨l,false⟩).1.signals=sh:=AN
    have gw:(mW ⟨l,false⟩).2=r:=gw
    generalize ht:(mW ⟨l,false⟩).1=t at *
    generalize hr:(mW ⟨l,false⟩).2=r' at *
    subst gw na AN
    obtain⟨H1,iw,hO,hS⟩:=a_.freeze (SL.b4 hS (t:=.mem H::tP cv t.changes::tU sv t.signals::.ob (j9 rp r')::.pt xb [.int .i64 aI,.int .i64 kind,cv,sv,.int .i64 mark] 39::vI zb::X::F) Xi)
    obtain⟨H2,iB,hN,hS⟩:=a_.freeze hS
    rw[Ud]at hN
    have hx:mn H2 ⟨aI,kind,cv,sv,mark⟩ t:=⟨ny.symm,G5.symm,Hb.symm,hO.mono iB,hN⟩
    have kF:=bw.le_trans iw iB
    have kj:=hO.one
    have nu:=hN.one
    refine Cg (ZW rp r') λw hS=>?_
    have iR:¬(r'.bad=false/\r'.l=[]/\iM t=true)->∀{w:World},SL W (X::.mem H2::F) w->∃post,sj X H bs (.tuple #[agg (iU uI),.int .i64 3]) post/\SL W (app post F) w:=λh w hS=>⟨[X,.mem H2],by unfold sj;rw[Wy hd (by rw[ht,hr];exact h)];exact⟨by decide,H2,kF,rfl,rfl⟩,hS⟩
    refine zA (λhb=>?_) (λhb=>?_)
    ·have hb:=of_decide_eq_false hb
     refine Gn λw hS=>?_
     exact iR (λh=>hb ⟨h.1,h.2.1⟩) (aR hS)
    ·have hb:=of_decide_eq_true hb
     refine Gp ?_
     refine Cg (yu H2 ⟨aI,kind,cv,sv,mark⟩ t hx) λw hS=>?_
     refine zA (λhm=>?_) (λhm=>?_)
     ·refine Gn λw hS=>?_
      exact iR (λh=>by rw[h.2.2]at hm;cases hm) (aR hS)
     ·refine Gp ?_
      refine zD (vs:=iU ⟨aI,kind,cv,sv,mark⟩) hS Xu rfl rfl (sA kj nu) λw hS=>?_
      refine Gp ?_
      exact⟨[X,.mem H2],by unfold sj;rw[Wx hd (by rw[ht,hr];exact⟨hb.1,hb.2,hm⟩),ht];exact⟨⟨aI,kind,cv,sv,mark⟩,H2,kF,rfl,hx,rfl⟩,aR hS⟩
theorem Yd(H:bw)(v:Value)(C:List Row)(hC:gi H 2 v C.length (C.map iq).flatten)(hn:C.length<=140737488351232):SP 288 [v] [.mem H] (dW (.bool (ng C)) [.mem H]):=by
 intro W F w hS;apply b66;delta L1 aF a7 b7 ai cI;(try simp only[app]at hS)
 refine zo hC ?_
 refine⟨λus w=>∃(i:Nat) (k:Int),us=[.int .i64 k,.int .i64 i]/\i<=C.length/\sf 0 C=sf k (C.drop i)/\SL W (.mem H::F) w,λus _=>match us with|[_,.int _ i]=>(C.length-i).toNat|_=>0,⟨0,0,rfl,by omega,rfl,hS⟩,?_⟩
 clear hS
 rintro v3 v8 w ⟨i,k,cW,hi,hr,hS⟩
 cases cW
 refine bW (λh=>?_) (λh=>?_)
 ·have b3:i<C.length:=by omega
  rw[List.drop_eq_getElem_cons b3,sf]at hr
  refine zS hS Xh jY hC (x:=C[i]) (by simp[b3]) b3 ?_
  generalize C[i]=r at *
  obtain⟨rk,rv⟩:=r
  have hF:∀{w:World} {b:Nat},¬(k<rk/\rk<=1099511627776/\rv.size<=32)->SL W (.pt b [.int .i64 rk,.string rv] 52::.mem H::F) w->∃post,dW (.bool (ng C)) [.mem H] (.bool false) post/\SL W (app post F) w:=λiR hS=>
   ⟨_,⟨by unfold ng;rw[hr,decide_eq_false iR];rfl,rfl⟩,aR hS⟩
  rw[F_]
  refine Gm λb w hS=>?_
  refine za (λh1=>hF (by omega) hS) (λh1=>?_)
  refine Gp ?_
  refine za (λh2=>hF (by omega) hS) (λh2=>?_)
  refine Gp ?_
  refine za (λh3=>hF (by omega) hS) (λh3=>?_)
  refine Gp ?_
  refine⟨⟨i+1,rk,rfl,by omega,?_,aR hS⟩,by dsimp only;omega⟩
  rw[hr,decide_eq_true (show k<rk/\rk<=1099511627776/\rv.size<=32 by omega)];rfl
 ·have mS:i=C.length:=by omega
  subst mS
  rw[List.drop_length]at hr
  refine zo hC ?_
  refine Gp ?_
  have e:ng C=decide ((C.length:Int)<=1000):=by
   unfold ng;rw[hr]
   show (true && _)=_
   rw[Bool.true_and,decide_eq_decide];omega
  rw[e]
  (exact eF hS)
def uK(H:bw)(v:Value)(ts:List (List Row)):Prop:=∃vs,gi H 1 v ts.length vs/\mE H vs ts
theorem yr{H:bw}{v:Value}{ts:List (List Row)}{K:Value->Prop}(h:uK H v ts)(k:K (.int .i64 ts.length)):zd v K:=by
 obtain⟨vs,h1,_⟩:=h
 exact zo h1 k
theorem YO{W w:World}{l:List Chunk}{H:bw}{v:Value}{ts:List (List Row)}{j:Nat}{k:IntKind}{K:Value->Prop}(hS:SL W l w)(hm:Has (.mem H) l)(h:uK H v ts)(hj:j<ts.length)
  (hK:∀u,gi H 2 u ts[j].length (ts[j].map iq).flatten->K u):ze 1 v (.int k (j:Int)) λp=>b6 p w K:=by
 obtain⟨vs,h1,h2⟩:=h
 have hl:=h2.1
 have hu:vs[j]?=some (vs[j]'(by omega)):=List.getElem?_eq_getElem (by omega)
 exact yS hS hm h1 hj hu (hK _ (h2.2 j _ _ hu (List.getElem?_eq_getElem hj)))
theorem YJ(H:bw)(v:Value)(aI:Int)(ts:List (List Row))(hv:uK H v ts)(hn:ts.length<=140737488351232)(hc:∀C∈ts,C.length<=140737488351232):SP 230 [.int .i64 aI,v] [.mem H] (dW (.bool (lg aI ts)) [.mem H]):=by
 intro W F w hS;apply b50;delta Li aF c_ b7 ai;(try simp only[app]at hS)
 have hF:∀{w:World},¬(0<=aI/\aI<=1099511627776/\1<=ts.length/\ts.length<=8)->SL W (.mem H::F) w->∃post,dW (.bool (lg aI ts)) [.mem H] (.bool false) post/\SL W (app post F) w:=λiR hS=>⟨_,⟨by unfold lg;rw[decide_eq_false iR];rfl,rfl⟩,hS⟩
 refine Gp ?_
 refine za (λh=>hF (by omega) hS) (λh1=>?_)
 refine Gp ?_
 refine za (λh=>hF (by omega) hS) (λh2=>?_)
 refine yr hv ?_
 refine Gp ?_
 refine za (λh=>hF (by omega) hS) (λh3=>?_)
 refine yr hv ?_
 refine Gp ?_
 refine za (λh=>hF (by omega) hS) (λh4=>?_)
 refine yr hv ?_
 have hM:lg aI ts=ts.all ng:=by unfold lg;rw[decide_eq_true (show 0<=aI/\aI<=1099511627776/\1<=ts.length/\ts.length<=8 by omega)];rfl
 refine⟨λus w=>∃i:Nat,us=[.int .i64 i]/\i<=ts.length/\(∀j (h:j<ts.length),j<i->ng ts[j]=true)/\SL W (.mem H::F) w,λus _=>match us with|[.int _ i]=>(ts.length-i).toNat|_=>0,⟨0,rfl,by omega,λj h hj=>by omega,hS⟩,?_⟩
 clear hS
 rintro v25 w ⟨i,cW,hi,iz,hS⟩
 cases cW
 refine bW (λh=>?_) (λh=>?_)
 ·have b3:i<ts.length:=by omega
  refine YO hS Xh hv b3 λu hu=>?_
  refine Cg (Yd H u ts[i] hu (hc _ (List.getElem_mem b3))) λw hS=>?_
  refine zA (λhb=>?_) (λhb=>?_)
  ·refine⟨_,⟨?_,rfl⟩,hS⟩
   rw[hM,show ts.all ng=false from List.all_eq_false.2 ⟨_,List.getElem_mem b3,by rw[hb];decide⟩]
  ·refine Gp ?_
   refine⟨⟨i+1,rfl,by omega,λj hj k9=>?_,hS⟩,by dsimp only;omega⟩
   by_cases e:j=i
   ·subst e;exact hb
   ·exact iz j hj (by omega)
 ·refine⟨_,⟨?_,rfl⟩,hS⟩
  rw[hM,show ts.all ng=true from List.all_eq_true.2 λC hC=>by
   obtain⟨j,hj,rfl⟩:=List.getElem_of_mem hC
   exact iz j hj (by omega)]
def te(aI:Int)(ts:List (List Row))(i:Nat):List gW:=[iF aI,iF ts.length]++((ts.take i).map pM).flatten
def sB(aI:Int)(ts:List (List Row))(i:Nat)(C:List Row)(j:Nat):List gW:=te aI ts i++(iF C.length::((C.take j).map ue).flatten)
theorem W3{aI:Int}{ts:List (List Row)}{i:Nat}(h:i<ts.length):te aI ts (i+1)=sB aI ts i ts[i] ts[i].length:=by
 unfold te sB te pM
 rw[List.take_succ_eq_append_getElem h,List.map_append,List.flatten_append,List.map_singleton,List.flatten_singleton,List.take_length,List.append_assoc]
theorem W5{aI:Int}{ts:List (List Row)}{i:Nat}{C:List Row}{j:Nat}(h:j<C.length):sB aI ts i C (j+1)=sB aI ts i C j++[iF C[j].key]++[tF C[j].val]:=by
 unfold sB
 rw[List.take_succ_eq_append_getElem h,List.map_append,List.flatten_append,List.map_singleton,List.flatten_singleton]
 simp[ue]
theorem W2(aI:Int)(ts:List (List Row)):te aI ts ts.length=oT aI ts:=by unfold te oT;rw[List.take_length]
theorem OV{aI:Int}{ts:List (List Row)}(h:∀C∈ts,C.length<=1000)(i:Nat):(te aI ts i).length<=2+ts.length*2001:=by
 have k:=w9 (f:=pM) (k:=2001) (ts.take i) λC hC=>by rw[O0];have:=h C (List.mem_of_mem_take hC);omega
 have:(ts.take i).length*2001<=ts.length*2001:=Nat.mul_le_mul_right _ (by rw[List.length_take];omega)
 unfold te
 rw[List.length_append]
 simp only[List.length_cons,List.length_nil]
 omega
theorem W4{aI:Int}{ts:List (List Row)}(h:∀C∈ts,C.length<=1000)(i:Nat){C:List Row}(hC:C.length<=1000)(j:Nat):(sB aI ts i C j).length<=2003+ts.length*2001:=by
 have h1:=OV (aI:=aI) h i
 unfold sB
 rw[List.length_append,List.length_cons,DC (f:=ue) (k:=2) (λ_=>rfl),List.length_take]
 omega
def Ff(H:bw)(aI:Int)(ts:List (List Row))(u:Value)(post:List Chunk):Prop:=match F8 aI ts with
 | .error e=>u= .tuple #[.slice none 0 0,.int .i64 e]/\post=[.mem H]
 | .ok b=>∃v,u= .tuple #[v,.int .i64 0]/\post=[.ob (a_ v 5 1 b.length (b.map cR)),.mem H]
theorem bR6(r:cF):oI r=iJ sQ (iA 1000 r).1.toNat (iA 1000 r).2:=rfl
theorem qU(rp:Nat)(r:cF):SP 282 [.pointer (some ⟨rp,0,none⟩)] [.ob (j9 rp r)] (λv post=>(oI r).1.length<=1000/\post=[jL v (oI r).1,.ob (j9 rp (oI r).2)]):=by
 intro W F w hS;apply b60;delta LU aF ai cI bI;(try simp only[app]at hS)
 rw[bR6]
 have tB:=EU (m:=1000) (by decide) r
 refine Cc (zY rp r 1000) ?_;clear hS
 rintro v1 post ⟨rfl,rfl⟩ w hS
 try simp only[app]at hS
 generalize (iA 1000 r).1=n1 at *
 generalize (iA 1000 r).2=r2 at *
 have hS:SL W (jL (.slice none 0 0) []::_) _:=a_.nil hS
 refine⟨λus w=>∃(k:Nat) (rs:List Row) (r:cF) (rv:Value),us=[rv,.int .i64 k]/\nD sQ n1.toNat r2 rs k r/\SL W (jL rv rs::.ob (j9 rp r)::F) w,
  λus _=>match us with|[_,.int _ i]=>i.toNat|_=>0,⟨n1.toNat,[],r2,.slice none 0 0,by rw[show ((n1.toNat:Nat):Int)=n1 by omega],nD.start _ _ _,aR hS⟩,?_⟩
 clear hS
 rintro v3 v4 w ⟨k,rs,r,rv,cW,hM,hS⟩
 cases cW
 have hle:=hM.le
 refine bW (λh=>?_) (λh=>?_)
 ·obtain⟨k,rfl⟩:∃j,k=j+1:=⟨k-1,by omega⟩
  refine Cg (qS rp r) λw hS=>?_
  refine zA (λhb=>?_) (λhb=>?_)
  ·have hM:=hM.step hb
   refine Cc (yD rp r) ?_;clear hS
   rintro v1 post ⟨rfl,rfl⟩ w hS
   try simp only[app]at hS
   refine Cg (yY rp _) λw hS=>?_;refine Gm λb w hS=>?_
   refine yy (n:=rs.length) (xs:=rs) (y:=(sQ r).1) (enc:=iq) hS Xr Xh jY (λx=>uV x) rfl (by omega) (by omega) λu w hS=>?_
   refine Gp ?_
   refine⟨⟨k,_,_,u,by rw[show ((k+1:Nat):Int)-1=(k:Int) by omega],hM,?_⟩,by dsimp only;omega⟩
   have hS:=hS.sS (x:=(sQ r).1)
   have hS:SL W (jL u (rs++[(sQ r).1])::_::.ob (j9 rp (sQ r).2)::F) _:=hS
   exact aR hS
  ·rw[hM.stop (.inr hb)]
   exact⟨_,⟨by show rs.length<=1000;omega,rfl⟩,aR hS⟩
 ·rw[hM.stop (.inl (by omega))]
  exact⟨_,⟨by show rs.length<=1000;omega,rfl⟩,aR hS⟩
theorem mE.nil(H:bw):mE H [] []:=⟨rfl,λi v C h1 h2=>by simp at h1⟩
theorem mE.snoc{H:bw}{vs:List Value}{ts:List (List Row)}(h:mE H vs ts){v:Value}{C:List Row}(hv:gi H 2 v C.length (C.map iq).flatten):mE H (vs++[v]) (ts++[C]):=by
 have hl:=h.1
 refine⟨by rw[List.length_append,List.length_append,hl];rfl,λi u D h1 h2=>?_⟩
 rcases Nat.lt_or_ge i vs.length with hi|hi
 ·rw[List.getElem?_append_left hi]at h1
  rw[List.getElem?_append_left (by omega)]at h2
  exact h.2 i u D h1 h2
 ·rw[List.getElem?_append_right hi]at h1
  rw[List.getElem?_append_right (by omega)]at h2
  obtain⟨e,rfl⟩:i-vs.length=0/\v=u:=by
   cases hk:i-vs.length with
   | zero=>rw[hk]at h1;exact⟨rfl,by simpa using h1⟩
   | succ n=>rw[hk]at h1;simp at h1
  rw[show i-ts.length=0 by omega]at h2
  obtain rfl:C=D:=by simpa using h2
  exact hv
def Bk(X:Chunk)(H:bw)(b:List UInt8)(u:Value)(post:List Chunk):Prop:=match lO b with
 | none=>u= .tuple #[.int .i64 0,.slice none 0 0,.int .i64 3]/\∃H',H.le H'/\post=[X,.mem H']
 | some x=>∃v H',H.le H'/\uK H' v x.2/\u= .tuple #[.int .i64 x.1,v,.int .i64 0]/\post=[X,.mem H']
theorem R4{l:List gW}(h:¬((nJ ⟨l,false⟩).2.bad=false/\(nJ ⟨l,false⟩).2.l=[]/\lg (nJ ⟨l,false⟩).1.1 (nJ ⟨l,false⟩).1.2=true)):r7 l=none:=by
 unfold r7;simp only;rw[if_neg h]
theorem aIo{l:List gW}(h:(nJ ⟨l,false⟩).2.bad=false/\(nJ ⟨l,false⟩).2.l=[]/\lg (nJ ⟨l,false⟩).1.1 (nJ ⟨l,false⟩).1.2=true):r7 l=some (nJ ⟨l,false⟩).1:=by
 unfold r7;simp only;rw[if_pos h]
structure Fh(l:List gW)(aI:Int)(r1:cF):Prop where
 aI:(nJ ⟨l,false⟩).1.1=aI
 ts:(nJ ⟨l,false⟩).1.2=(iY oI (iA 8 r1).1.toNat (iA 8 r1).2).1
 rd:(nJ ⟨l,false⟩).2=(iY oI (iA 8 r1).1.toNat (iA 8 r1).2).2
theorem Fh.is(l:List gW):Fh l (j7 ⟨l,false⟩).1 (j7 ⟨l,false⟩).2:=⟨rfl,rfl,rfl⟩
theorem qd(X:Chunk)(H:bw)(v:Value)(bs:List UInt8)(hv:ie X v bs)(hN:bs.length<=140737488355328):SP 219 [v] [X,.mem H] (Bk X H bs):=by
 intro W F w hS;apply b5n;delta K6 aF c_ ai bI;(try simp only[app]at hS)
 have iR:lO bs=none->∀{w:World} {H':bw},H.le H'->SL W (X::.mem H'::F) w->∃post,Bk X H bs (.tuple #[.int .i64 0,.slice none 0 0,.int .i64 3]) post/\SL W (app post F) w:=λh w H' hh hS=>⟨[X,.mem H'],by unfold Bk;rw[h];exact⟨rfl,H',hh,rfl⟩,hS⟩
 refine Cc (Yx X v bs hv hN) ?_;clear hS
 rintro r post hq w hS
 unfold so at hq
 cases ht:kR bs with
 | error e=>
  rw[ht]at hq
  obtain⟨rfl,rfl⟩:=hq
  have hd:lO bs=none:=by unfold lO;rw[ht]
  have he:e≠0:=by have:=E5 ht;omega
  (try simp only[app]at hS);refine Gp ?_
  exact za (λ_=>iR hd (bw.le_refl H) (aR hS)) (λh=>absurd he h)
 | ok pn=>
  obtain⟨p,n⟩:=pn
  rw[ht]at hq
  obtain⟨pv,rfl,rfl⟩:=hq
  (try simp only[app]at hS);refine Gp ?_
  refine za (λh=>absurd rfl h) (λ_=>?_)
  refine zI hS Xh hv ?_
  refine bW (λh=>?_) (λh=>?_)
  ·have hd:lO bs=none:=by unfold lO;rw[ht];simp only;rw[if_neg (by omega)]
   exact iR hd (bw.le_refl H) (aR hS)
  have xy:n=bs.length:=by omega
  refine Cc (yW _ pv p ie.own) ?_;clear hS
  rintro r post hq w hS
  unfold rH at hq
  cases hd:lu p with
  | error e=>
   rw[hd]at hq
   obtain⟨rfl,rfl⟩:=hq
   have he:=Dr hd
   have hd:lO bs=none:=by unfold lO;rw[ht];simp only;rw[if_pos xy,hd]
   (try simp only[app]at hS);refine Gp ?_
   exact za (λ_=>iR hd (bw.le_refl H) (aR hS)) (λh=>absurd he h)
  | ok l=>
   rw[hd]at hq
   obtain⟨lv,rfl,rfl⟩:=hq
   have hI:=FZ ht xy hd
   (try simp only[app]at hS);refine Gp ?_
   refine za (λh=>absurd rfl h) (λ_=>?_)
   refine Cc (ZY lv l) ?_;clear hS
   rintro _ post ⟨rp,rfl,rfl⟩ w hS
   try simp only[app]at hS
   refine Cc (yD rp ⟨l,false⟩) ?_;clear hS
   rintro v1 post ⟨rfl,rfl⟩ w hS
   try simp only[app]at hS
   have hR:=Fh.is l
   generalize (j7 ⟨l,false⟩).1=aI at *
   generalize (j7 ⟨l,false⟩).2=r1 at *
   have tB:=EU (m:=8) (by decide) r1
   refine Cc (zY rp r1 8) ?_;clear hS
   rintro v1 post ⟨rfl,rfl⟩ w hS
   try simp only[app]at hS
   have lX:=hR.ts
   have gw:=hR.rd
   generalize (iA 8 r1).1=n1 at *
   generalize (iA 8 r1).2=r2 at *
   have hS:SL W (.ob (a_ (.slice none 0 0) 53 1 ([]:List (List Row)).length [])::_) _:=a_.nil hS
   refine⟨λus w=>∃(k:Nat) (ts:List (List Row)) (r:cF) (tv:Value) (vs:List Value) (H':bw),us=[tv,.int .i64 k]/\rG oI n1.toNat r2 ts k r/\(∀C∈ts,C.length<=1000)/\H.le H'/\mE H' vs ts/\SL W (.ob (a_ tv 53 1 ts.length vs)::.ob (j9 rp r)::X::.mem H'::F) w,
    λus _=>match us with|[_,.int _ i]=>i.toNat|_=>0,⟨n1.toNat,[],r2,.slice none 0 0,[],H,by rw[show ((n1.toNat:Nat):Int)=n1 by omega],rG.start _ _ _,by simp,bw.le_refl H,mE.nil H,aR hS⟩,?_⟩
   clear hS
   rintro tv oK w ⟨k,ts,r,_,vs,H',cW,hM,vU,hh,m_,hS⟩
   cases cW
   have hle:=hM.le
   refine bW (λh=>?_) (λh=>?_)
   ·obtain⟨k,rfl⟩:∃j,k=j+1:=⟨k-1,by omega⟩
    have hM:=hM.step
    refine Cc (qU rp r) ?_;clear hS
    rintro rv post ⟨hl,rfl⟩ w hS
    try simp only[app]at hS
    obtain⟨H2,iB,hO,hS⟩:=zE (H:=H') (v:=rv) hS Xp
    have kj:=hO.one
    refine zz hS (Dy kj) λb w hS=>?_
    refine zx (n:=ts.length) (m:=1) hS Xr (lP (cs:=[rv]) hS Xh rfl) rfl rfl (by simpa using kj) (by omega) (by omega) ?_
    clear hS;intro u w hS
    refine Gp ?_
    refine⟨⟨k,_,_,u,vs++[rv],H2,by rw[show ((k+1:Nat):Int)-1=(k:Int) by omega],hM,λC hC=>?_,bw.le_trans hh iB,(m_.mono iB).snoc hO,?_⟩,by dsimp only;omega⟩
    ·rcases List.mem_append.1 hC with hC|hC
     ·exact vU C hC
     ·rw[List.mem_singleton.1 hC];exact hl
    ·have hS:=hS.sS (x:=(oI r).1)
     exact aR hS
   ·obtain rfl:k=0:=by omega
    rw[hM.stop]at lX gw
    have lX:(nJ ⟨l,false⟩).1.2=ts:=lX
    have gw:(nJ ⟨l,false⟩).2=r:=gw
    have ny:=hR.aI
    obtain⟨H2,iB,hO,hS⟩:=zE (H:=H') (v:=tv) hS Xp
    have kF:=bw.le_trans hh iB
    have hT:uK H2 tv ts:=⟨vs,hO,m_.mono iB⟩
    refine Cg (ZW rp r) λw hS=>?_
    refine zA (λhb=>?_) (λhb=>?_)
    ·have hb:=of_decide_eq_false hb
     exact iR (by rw[hI];exact R4 λh=>hb ⟨by rw[<- gw];exact h.1,by rw[<- gw];exact h.2.1⟩) kF (aR hS)
    ·have hb:=of_decide_eq_true hb
     refine Cg (YJ H2 tv aI ts hT (by omega) (λC hC=>by have:=vU C hC;omega)) λw hS=>?_
     refine zA (λhm=>?_) (λhm=>?_)
     ·exact iR (by rw[hI];exact R4 λh=>by rw[ny,lX,hm]at h;cases h.2.2) kF (aR hS)
     ·skip
      have he:=aIo (l:=l) ⟨by rw[gw];exact hb.1,by rw[gw];exact hb.2,by rw[ny,lX];exact hm⟩
      refine⟨[X,.mem H2],?_,aR hS⟩
      unfold Bk
      rw[hI,he]
      simp only
      rw[ny,lX]
      exact⟨tv,H2,kF,hT,rfl,rfl⟩
def k6:List fW->Prop
 | []=>True
 | [_]=>True
 | s::t::r=>t.first=s.next/\k6 (t::r)
theorem k6.tail{s:fW}{L:List fW}(h:k6 (s::L)):k6 L:=by
 cases L with
 | nil=>trivial
 | cons t r=>exact h.2
theorem k6.drop{L:List fW}(h:k6 L):∀i,k6 (L.drop i)
 | 0=>h
 | i+1=>by
  cases L with
  | nil=>exact trivial
  | cons s L=>exact k6.drop h.tail i
theorem k6.snoc:∀{L:List fW} {x:fW},k6 L->(L≠[]->x.first=b9 L+1)->k6 (L++[x])
 | [],x,_,_=>trivial
 | [s],x,_,h=>⟨by have:=h (by simp);simp only[b9,List.getLast?_singleton]at this;omega,trivial⟩
 | s::t::r,x,h,hx=>by
  refine⟨h.1,?_⟩
  refine k6.snoc (L:=t::r) h.2 λ_=>?_
  have:=hx (by simp)
  simp only[b9,List.getLast?_cons_cons]at this ⊢
  exact this
theorem k6.last:∀{A:List fW} {s t:fW},k6 (A++[s])->t.first=s.first->k6 (A++[t])
 | [],s,t,_,_=>trivial
 | [a],s,t,h,e=>⟨by rw[e];exact h.1,trivial⟩
 | a::b::r,s,t,h,e=>⟨h.1,k6.last (A:=b::r) h.2 e⟩
def UX(g:g8):Prop:=∀x,g.ia=some x->0<=x.file/\x.file<=100000/\(x.fresh=false->∃s,g.bR.getLast?=some s/\s.file=x.file/\x.oq=s.size)/\(x.fresh=true->∀s,g.bR.getLast?=some s->s.file≠x.file)
structure od(g:g8)(M:Nat):Prop where
 ok:g.Ok M
 seq:k6 g.bR
 hd:b9 g.bR<=1099511627776
 ia:UX g
theorem od.mono{g:g8}{N M:Nat}(h:od g N)(hm:N<=M):od g M:=⟨h.ok.mono hm,h.seq,h.hd,h.ia⟩
theorem SR(g:g8)(d:DS):(g6 g d).1.1.ia=if (g6 g d).2=0 then none else g.ia:=by
 unfold g6
 split
 ·rename_i h;simp[h]
 ·rename_i x h
  simp only
  split<;>simp[h]
theorem aWo{g:g8}{d:DS}{M:Nat}(h:od g M):od (g6 g d).1.1 M:=by
 obtain⟨h1,h2,h3⟩:=wm g d
 refine⟨HZ h.ok,by rw[h1];exact h.seq,by rw[h1];exact h.hd,λx hx=>?_⟩
 rw[SR]at hx
 split at hx
 ·cases hx
 ·rw[h1];exact h.ia x hx
theorem DV(A:List fW)(s:fW):b9 (A++[s])=s.next-1:=by
 unfold b9;rw[List.getLast?_concat]
theorem a_k{g:g8}{M:Nat}(h:od g M){p:List UInt8}{x:lI}(hw:z_ g p x)(ht:g.ia=none):od {g with bR:=lM g.bR x p} (M+(28+p.length)):=by
 obtain⟨k1,k2⟩:=It h.ok hw
 have hb:=h.ok
 have B_:=hw.hd
 obtain⟨A,s,hA⟩:=EE hw
 have Cv:k6 (A++[s])/\s.next-1<=b9 g.bR:=by
  rw[<- hA]
  unfold sL at hA ⊢
  split
  ·rename_i hf
   rw[if_pos hf]at hA
   have hs:=List.append_inj' hA rfl
   have e:s=⟨x.file,b9 g.bR+1,0,[]⟩:=by simpa using hs.2.symm
   refine⟨h.seq.snoc λ_=>rfl,?_⟩
   rw[e];simp[fW.next]
  ·rename_i hf
   rw[if_neg hf]at hA
   refine⟨h.seq,?_⟩
   rw[hA,DV];exact Int.le_refl _
 rw[A6 _ _ _ hA]at k1 k2 ⊢
 refine⟨⟨k1,hb.b0,hb.b1,hb.s0,hb.s1,by show (A++[s6 s x.b.length p]).length<=_;omega⟩,Cv.1.last rfl,?_,λy hy=>?_⟩
 ·show b9 (A++[s6 s x.b.length p])<=_
  rw[DV]
  have e:(s6 s x.b.length p).next=s.next+1:=by simp[fW.next,s6];omega
  rw[e];omega
 ·have:g.ia=some y:=hy
  rw[ht]at this;cases this
theorem Vn{g:g8}{d:DS}{M:Nat}(h:od g M)(p:List UInt8):od (j6 g d p).1.1 (M+(28+p.length)):=by
 unfold j6
 split
 ·exact h.mono (by omega)
 ·rename_i x hx
  have hw:=Is h.ok hx
  have hm:=aWo (d:=d) h
  obtain⟨m1,_,_⟩:=wm g d
  have mt:=SR g d
  simp only
  split
  ·exact hm.mono (by omega)
  ·rename_i h0
   have h0:(g6 g d).2=0:=by simpa using h0
   rw[if_pos h0]at mt
   split
   ·exact hm.mono (by omega)
   ·split
    ·exact hm.mono (by omega)
    ·refine a_k hm ⟨hw.pl,by rw[m1];exact hw.hd,by rw[m1];exact hw.sN,hw.f0,hw.bl,hw.pos⟩ mt
theorem aR4{L:List fW}{R:List PF}{f:Int}{last:Bool}(h:k6 L)(hh:b9 L<=1099511627776):k6 (l9 L R f last).2/\b9 (l9 L R f last).2<=1099511627776:=by
 unfold l9
 simp only
 split
 ·exact⟨h,hh⟩
 ·split
  ·exact⟨h,hh⟩
  ·rename_i k l n hr hc
   refine⟨h.snoc λhL=>?_,?_⟩
   ·show k=b9 L+1
    have:0<L.length:=List.length_pos_iff.2 hL
    rcases Int.lt_trichotomy k (b9 L+1) with h1|h1|h1
    ·exact absurd (.inr (.inl ⟨this,by omega⟩)) hc
    ·exact h1
    ·exact absurd (.inr (.inl ⟨this,by omega⟩)) hc
   ·show b9 (L++[_])<=_
    rw[DV]
    simp only[fW.next]
    rcases Int.lt_or_le 1099511627776 (k+l.length-1) with h1|h1
    ·exact absurd (.inr (.inr h1)) hc
    ·exact h1
theorem St{R:List PF}:∀(ids:List Int) (prev:Option Int) (L:List fW) (wh:Bool),k6 L->b9 L<=1099511627776->∀{L' xW},mK R ids prev L wh=some (L',xW)->k6 L'/\b9 L'<=1099511627776
 | [],prev,L,wh,h,hh,L',xW,e=>by cases e;exact⟨h,hh⟩
 | f::r,prev,L,wh,h,hh,L',xW,e=>by
  rw[CL]at e
  obtain⟨k1,k2⟩:=aR4 (R:=R) (f:=f) (last:=r.isEmpty) h hh
  split at e
  ·cases e
  ·split at e
   ·cases e
   ·exact St r _ _ _ k1 k2 e
def tg:List fW->Int->Option (List UInt8)
 | [],_=>none
 | s::r,n=>if n-s.first<s.l.length then s.l[(n-s.first).toNat]? else tg r n
theorem O7:∀(L:List fW) (n:Int),k6 L->(∀s,L.head?=some s->s.first<=n)->tg L n=lj L n
 | [],n,_,_=>rfl
 | [s],n,_,h=>by
  have h0:=h s rfl
  have o7:s.next=s.first+s.l.length:=rfl
  by_cases h1:n-s.first<s.l.length
  ·rw[tg,lj,if_pos h1,if_pos (c:=s.first<=n/\n<s.next) ⟨h0,by omega⟩]
  ·rw[tg,lj,if_neg h1,if_neg (c:=s.first<=n/\n<s.next) (by omega)];rfl
 | s::t::r,n,hs,h=>by
  have h0:=h s rfl
  have o7:s.next=s.first+s.l.length:=rfl
  have h1:=hs.1
  by_cases h2:n-s.first<s.l.length
  ·rw[tg,lj,if_pos h2,if_pos (c:=s.first<=n/\n<s.next) ⟨h0,by omega⟩]
  ·rw[tg,lj,if_neg h2,if_neg (c:=s.first<=n/\n<s.next) (by omega)]
   exact O7 (t::r) n hs.2 λx hx=>by cases hx;omega
theorem Tv:∀(L:List fW) (n:Int),k6 L->(∀s∈L,0<=(s.l.length:Int))->n<jB L->lj L n=none
 | [],n,_,_,_=>rfl
 | [s],n,_,_,h=>by
  have h:n<s.first:=h
  rw[lj,if_neg (by omega)];rfl
 | s::t::r,n,hs,hp,h=>by
  have h:n<s.first:=h
  have h1:=hs.1
  simp only[fW.next]at h1
  rw[lj,if_neg (by omega)]
  exact Tv (t::r) n hs.2 (λx hx=>by omega) (by show n<t.first;omega)
theorem Tt:∀(L:List fW) (n:Int),k6 L->b9 L<n->lj L n=none
 | [],n,_,_=>rfl
 | [s],n,_,h=>by
  have h:s.next-1<n:=h
  rw[lj,if_neg (by omega)];rfl
 | s::t::r,n,hs,h=>by
  have hh:b9 (s::t::r)=b9 (t::r):=by simp only[b9,List.getLast?_cons_cons]
  rw[hh]at h
  have hle:∀(L:List fW) (x:fW),k6 (x::L)->x.next-1<=b9 (x::L):=by
   intro L
   induction L with
   | nil=>intro x _;exact Int.le_refl _
   | cons y L ih=>
    intro x hx
    have:=ih y hx.2
    have h1:=hx.1
    have h2:b9 (x::y::L)=b9 (y::L):=by simp only[b9,List.getLast?_cons_cons]
    rw[h2]
    simp only[fW.next]at *
    omega
  have h1:=hle r t hs.2
  have h2:=hs.1
  have h3:s.next<=n:=by simp only[fW.next]at *;omega
  rw[lj,if_neg (by omega)]
  exact Tt (t::r) n hs.2 h
theorem aWq(bR:List fW)(base size:Int)(x:wI)(d:DS):g6 ⟨bR,base,size,some x⟩ d =
  ((⟨bR,base,size,if (if x.fresh=true then d.remove x.file else d.cut x.file x.oq).2=0 then none else some x⟩,(if x.fresh=true then d.remove x.file else d.cut x.file x.oq).1),(if x.fresh=true then d.remove x.file else d.cut x.file x.oq).2):=rfl
theorem qM(lp dp:Nat)(g:g8)(d:DS)(N:Nat)(b5:d.Ok N)(hN:N<=140737488355328)(iO:d.ops<=100000):
  SP 287 [.pointer (some ⟨lp,0,none⟩)] [.ob (iy lp dp g),.ob (cw dp d)] (dW (.int .i64 (g6 g d).2) [.ob (iy lp dp (g6 g d).1.1),.ob (cw dp (g6 g d).1.2)]):=by
 intro W F w hS;apply b65;delta LZ aF bF fI ai eI;(try simp only[app]at hS)
 obtain⟨sv,tv,xs,hx,hS⟩:=iy.iff.1 hS
 obtain⟨bR,base,size,ia⟩:=g
 simp only at hx hS
 cases ia with
 | none=>
  rw[show g6 ⟨bR,base,size,none⟩ d=((⟨bR,base,size,none⟩,d),0) from rfl]
  obtain⟨rfl,hS⟩:=Bu.1 (SL.b4 hS (t:=.ob (ka tv none)::.pt lp (jP sv tv dp base size) 148::jI sv xs::.ob (zh gI xs)::.ob (cw dp d)::F) Xi)
  refine Gp ?_
  refine zw ?_
  have hS:=(Bu (v:=.pointer none)).2 ⟨rfl,hS⟩
  exact⟨_,⟨rfl,rfl⟩,iy.iff.2 ⟨sv,.pointer none,xs,hx,aR hS⟩⟩
 | some x=>
  obtain⟨tb,rfl,hS⟩:=Fs.1 (SL.b4 hS (t:=.ob (ka tv (some x))::.pt lp (jP sv tv dp base size) 148::jI sv xs::.ob (zh gI xs)::.ob (cw dp d)::F) Xi)
  rw[aWq]
  refine Gp ?_
  refine zq ?_
  refine Gp ?_
  refine y3 (λhf=>?_) (λhf=>?_)
  ·simp only[if_pos hf]
   refine Gn λw hS=>?_
   refine Cg (Zo dp d N b5 iO x.file) λw hS=>?_
   refine za (λh=>?_) (λh=>?_)
   ·rw[if_pos h]
    refine Gn λw hS=>?_
    have hS:=(Bu (v:=.pointer none)).2 ⟨rfl,hS⟩
    exact⟨_,⟨rfl,rfl⟩,iy.iff.2 ⟨sv,.pointer none,xs,hx,aR hS⟩⟩
   ·rw[if_neg h]
    have hS:=(Fs (v:=.pointer (some ⟨tb,0,none⟩)) (x:=x)).2 ⟨tb,rfl,SL.b4 hS (t:=.pt tb [.int .i64 x.file,.int .i64 x.oq,.bool x.fresh] 408::.pt lp (jP sv (.pointer (some ⟨tb,0,none⟩)) dp base size) 148::jI sv xs::.ob (zh gI xs)::.ob (cw dp (d.remove x.file).1)::F) Xi⟩
    exact⟨_,⟨rfl,rfl⟩,iy.iff.2 ⟨sv,_,xs,hx,aR hS⟩⟩
  ·have hf:¬x.fresh=true:=by rw[hf];decide
   simp only[if_neg hf]
   refine Gn λw hS=>?_
   refine Cg (Yg dp d N b5 hN iO x.file x.oq) λw hS=>?_
   refine za (λh=>?_) (λh=>?_)
   ·rw[if_pos h]
    refine Gn λw hS=>?_
    have hS:=(Bu (v:=.pointer none)).2 ⟨rfl,hS⟩
    exact⟨_,⟨rfl,rfl⟩,iy.iff.2 ⟨sv,.pointer none,xs,hx,aR hS⟩⟩
   ·rw[if_neg h]
    have hS:=(Fs (v:=.pointer (some ⟨tb,0,none⟩)) (x:=x)).2 ⟨tb,rfl,SL.b4 hS (t:=.pt tb [.int .i64 x.file,.int .i64 x.oq,.bool x.fresh] 408::.pt lp (jP sv (.pointer (some ⟨tb,0,none⟩)) dp base size) 148::jI sv xs::.ob (zh gI xs)::.ob (cw dp (d.cut x.file x.oq).1)::F) Xi⟩
    exact⟨_,⟨rfl,rfl⟩,iy.iff.2 ⟨sv,_,xs,hx,aR hS⟩⟩
def UR(lp dp:Nat)(g:g8)(d:DS)(X:Chunk)(p:List UInt8)(y:Except Int lI)(r:Value)(post:List Chunk):Prop:=match y with
 | .error e=>(∃z,r= .tuple #[.agg #[.int .i64 0,.bool false,.slice none 0 0],.int .i64 z]/\z=e/\z≠0)/\post=[.ob (iy lp dp g),.ob (cw dp d),X]
 | .ok x=>∃a c,r= .tuple #[.agg #[.int .i64 x.file,.bool x.fresh,.slice a x.b.length c],.int .i64 0]/\post=[.ob (a_ (.slice a x.b.length c) 5 1 x.b.length (x.b.map cR)),.ob (iy lp dp g),.ob (cw dp d),X]
theorem g8.Ok.xs{g:g8}{N:Nat}(h:g.Ok N){xs:List d_}(hx:xs.map d_.pl=g.bR):(∀s∈xs.map d_.pl,mO s N)/\xs.length<=N/\0<=b9 g.bR/\b9 g.bR<=1099511627776+N:=by
 refine⟨by rw[hx];exact h.bR,?_,u_ h.bR⟩
 have:=h.ln
 rw[<- hx,List.length_map]at this;exact this
theorem qR(X:Chunk)(lp dp:Nat)(g:g8)(d:DS)(v:Value)(p:List UInt8)(hv:ie X v p)(hp:p.length<=140737488355328){M:Nat}(hg:g.Ok M)(hM:M<=1000000000000000):
  SP 286 [.pointer (some ⟨lp,0,none⟩),v] [.ob (iy lp dp g),.ob (cw dp d),X] (UR lp dp g d X p (jV g d.off p)):=by
 intro W F w hS;apply b64;delta LY aF bF a7 dI ai bI;(try simp only[app]at hS)
 obtain⟨sv,tv,xs,hx,hS⟩:=iy.iff.1 hS
 obtain⟨b5,hl,Rf,B'⟩:=hg.xs hx
 have PX:=hg.b0
 have vX:=hg.b1
 have tE:=hg.s1
 have hs0:=hg.s0
 have pP:b9 (xs.map d_.pl)=b9 g.bR:=by rw[hx]
 refine Gm λb w hS=>?_
 refine Cc (qg X v p hv hp) ?_;clear hS
 rintro r post hQ w hS
 unfold rL at hQ
 by_cases rl:1048576<p.length
 ·rw[if_pos rl]at hQ
  obtain⟨rfl,rfl⟩:=hQ
  have jO:jV g d.off p= .error 1:=by unfold jV;rw[if_pos rl]
  rw[jO]
  (try simp only[app]at hS);refine Gp ?_
  refine za (λ_=>?_) (λh=>absurd (by decide) h)
  refine Gn λw hS=>?_
  exact⟨_,⟨⟨1,rfl,rfl,by decide⟩,rfl⟩,SL.b4 (iy.iff.2 ⟨sv,tv,xs,hx,SL.b4 hS (t:=.pt lp (jP sv tv dp g.base g.size) 148::jI sv xs::.ob (zh gI xs)::.ob (ka tv g.ia)::.ob (cw dp d)::X::F) Xi⟩) Xi⟩
 ·rw[if_neg rl]at hQ
  obtain⟨u,rfl,rfl⟩:=hQ
  try simp only[app]at hS
  have hu:=hS.nZ .hd
  obtain⟨au,cu,eu,_⟩:=a_.at hS .hd
  subst eu
  refine Gp ?_
  refine za (λh=>absurd rfl h) (λ_=>?_)
  refine Gp ?_
  refine Cg (Zd dp d) λw hS=>?_
  have k8:∀{w:World} {l:List Chunk},SL W (.pt lp (jP sv tv dp g.base g.size) 148::jI sv xs::.ob (zh gI xs)::.ob (ka tv g.ia)::l) w->SL W (.ob (iy lp dp g)::l) w:=λh=>iy.iff.2 ⟨sv,tv,xs,hx,h⟩
  refine y3 (λho=>?_) (λho=>?_)
  ·have jO:jV g d.off p= .error 8:=by unfold jV;rw[if_neg rl,if_pos ho]
   rw[jO]
   refine Gn λw hS=>?_
   exact⟨_,⟨⟨8,rfl,rfl,by decide⟩,rfl⟩,SL.b4 (k8 (SL.b4 hS (t:=.pt lp (jP sv tv dp g.base g.size) 148::jI sv xs::.ob (zh gI xs)::.ob (ka tv g.ia)::.ob (cw dp d)::X::F) Xi)) Xi⟩
  ·refine Gp ?_
   refine Cg (yl lp (jP sv tv dp g.base g.size) 148 sv xs rfl b5 hM (by omega)) λw hS=>?_
   rw[pP]
   refine za (λh1=>?_) (λh1=>?_)
   ·have jO:jV g d.off p= .error 7:=by unfold jV;rw[if_neg rl,if_neg (by rw[ho];decide),if_pos h1]
    rw[jO]
    refine Gn λw hS=>?_
    exact⟨_,⟨⟨7,rfl,rfl,by decide⟩,rfl⟩,SL.b4 (k8 (SL.b4 hS (t:=.pt lp (jP sv tv dp g.base g.size) 148::jI sv xs::.ob (zh gI xs)::.ob (ka tv g.ia)::.ob (cw dp d)::X::F) Xi)) Xi⟩
   ·refine Gp ?_
    refine⟨λvs w=>∃f:Int,vs=[.int .i64 f]/\jV g d.off p=m8 g f p/\-1000000<=f/\f<=1000000/\SL W (.pt b [.int .i64 0,.bool false,.slice none 0 0] 318::.pt lp (jP sv tv dp g.base g.size) 148::jI sv xs::.ob (zh gI xs)::.ob (ka tv g.ia)::.ob (cw dp d)::.ob (a_ (.slice au (gR p).length cu) 5 1 (gR p).length ((gR p).map cR))::X::F) w,?_,?_⟩
    ·refine Gp ?_
     refine zW hS Xh ?_
     refine bW (λh2=>?_) (λh2=>?_)
     ·refine Gp ?_
      have e:((xs.length:Nat):Int)-1=((xs.length-1:Nat):Int):=by omega
      rw[e]
      have hj:xs.length-1<xs.length:=by omega
      refine YQ hS Xh hj ?_
      have hm:(xs[xs.length-1]'hj).pl∈xs.map d_.pl:=List.mem_map.2 ⟨_,List.getElem_mem hj,rfl⟩
      have ur:g.bR.getLast?=some (xs[xs.length-1]'hj).pl:=by
       rw[<- hx,List.getLast?_map,List.getLast?_eq_getElem?,List.getElem?_eq_getElem hj];rfl
      have vj:=b5 _ hm
      generalize xs[xs.length-1]'hj=x at *
      have rz:jV g d.off p=if x.pl.l.length=0\/(x.pl.size:Int)+(gR p).length<=g.size then .ok ⟨x.pl.file,false,gR p⟩ else m8 g (x.pl.file+1) p:=by
       unfold jV;rw[if_neg rl,if_neg (by rw[ho];decide),if_neg (by omega),ur]
      have rZ:x.pl.l.length=x.es.length:=by simp[d_.pl,s8]
      have RW:x.pl.size=x.size:=rfl
      have Ee:x.pl.file=x.file:=rfl
      have k1:=vj.f0
      have k2:=vj.f1
      have k3:=vj.sz
      rw[rZ,RW,Ee]at rz
      rw[Ee]at k1 k2
      rw[RW]at k3
      have D':=oF p
      unfold iP d_.lv
      refine Gm λb w hS=>?_
      refine za (λh3=>?_) (λh3=>?_)
      ·rw[if_pos (.inl (by omega))]at rz
       rw[rz]
       refine Gn λw hS=>?_
       exact⟨_,⟨au,cu,rfl,rfl⟩,SL.b4 (k8 (SL.b4 hS (t:=.pt lp (jP sv tv dp g.base g.size) 148::jI sv xs::.ob (zh gI xs)::.ob (ka tv g.ia)::.ob (a_ (.slice au (gR p).length cu) 5 1 (gR p).length ((gR p).map cR))::.ob (cw dp d)::X::F) Xi)) Xi⟩
      ·refine bW (λh4=>?_) (λh4=>?_)
       ·rw[if_pos (.inr (by omega))]at rz
        rw[rz]
        refine Gn λw hS=>?_
        exact⟨_,⟨au,cu,rfl,rfl⟩,SL.b4 (k8 (SL.b4 hS (t:=.pt lp (jP sv tv dp g.base g.size) 148::jI sv xs::.ob (zh gI xs)::.ob (ka tv g.ia)::.ob (a_ (.slice au (gR p).length cu) 5 1 (gR p).length ((gR p).map cR))::.ob (cw dp d)::X::F) Xi)) Xi⟩
       ·rw[if_neg (by omega)]at rz
        refine Gp ?_
        exact⟨x.file+1,rfl,rz,by omega,by omega,aR hS⟩
     ·have rz:jV g d.off p=m8 g g.base p:=by
       have Co:g.bR=[]:=by
        rw[<- hx]
        have:xs=[]:=List.eq_nil_of_length_eq_zero (by omega)
        rw[this];rfl
       unfold jV;rw[if_neg rl,if_neg (by rw[ho];decide),if_neg (by omega),Co];rfl
      exact⟨g.base,rfl,rz,by omega,by omega,aR hS⟩
    ·clear hS
     rintro v8 w ⟨f,jy,rz,f0,f1,hS⟩
     cases jy
     rw[rz]
     unfold m8
     refine bW (λh2=>?_) (λh2=>?_)
     ·rw[if_pos h2]
      refine Gn λw hS=>?_
      exact⟨_,⟨⟨7,rfl,rfl,by decide⟩,rfl⟩,SL.b4 (k8 (SL.b4 hS (t:=.pt lp (jP sv tv dp g.base g.size) 148::jI sv xs::.ob (zh gI xs)::.ob (ka tv g.ia)::.ob (cw dp d)::X::F) Xi)) Xi⟩
     ·rw[if_neg h2]
      refine Gp ?_
      refine Cg (yl lp (jP sv tv dp g.base g.size) 148 sv xs rfl b5 hM (by omega)) λw hS=>?_
      rw[pP]
      refine Cc (YT (b9 g.bR+1)) ?_;clear hS
      rintro r post hQ w hS
      unfold x_ at hQ
      rw[if_neg (by omega)]at hQ
      obtain⟨y,rfl,rfl⟩:=hQ
      try simp only[app]at hS
      have hy:=hS.nZ .hd
      obtain⟨ay,cy,ey,_⟩:=a_.at hS .hd
      subst ey
      refine Gm λb w hS=>?_
      refine yI (F:=_) (ZD _ 2 _ [_,_] [gR (jN (b9 g.bR+1).toNat),gR p] [.ob (a_ (.slice ay (gR (jN (b9 g.bR+1).toNat)).length cy) 5 1 (gR (jN (b9 g.bR+1).toNat)).length ((gR (jN (b9 g.bR+1).toNat)).map cR)),.ob (a_ (.slice au (gR p).length cu) 5 1 (gR p).length ((gR p).map cR))] rfl rfl ?_ ?_ (by omega)) hS Xp ?_
      ·intro i hi
       match i,hi with
       | 0,_=>exact⟨_,.hd,ie.own⟩
       | 1,_=>exact⟨_,.tl .hd,ie.own⟩
      ·have:=oF p
       have:=oF (jN (b9 g.bR+1).toNat)
       have:=u7 (b9 g.bR+1).toNat
       simp;omega
      ·clear hS
       rintro c post rfl w hS;(try simp only[app]at hS)
       have e2:[gR (jN (b9 g.bR+1).toNat),gR p].flatten=gR (jN (b9 g.bR+1).toNat)++gR p:=by simp
       rw[e2]at hS
       have hc:=hS.nZ .hd
       obtain⟨ac,cc,ec,_⟩:=a_.at hS .hd
       subst ec
       refine Gn λw hS=>?_
       have e3:(gR (jN (b9 g.bR+1).toNat)).length+(gR p).length=(gR (jN (b9 g.bR+1).toNat)++gR p).length:=by rw[List.length_append]
       rw[e3]
       exact⟨_,⟨ac,cc,rfl,rfl⟩,SL.b4 (k8 (SL.b4 hS (t:=.pt lp (jP sv tv dp g.base g.size) 148::jI sv xs::.ob (zh gI xs)::.ob (ka tv g.ia)::.ob (a_ (.slice ac (gR (jN (b9 g.bR+1).toNat)++gR p).length cc) 5 1 (gR (jN (b9 g.bR+1).toNat)++gR p).length ((gR (jN (b9 g.bR+1).toNat)++gR p).map cR))::.ob (cw dp d)::X::F) Xi)) Xi⟩
def UW(lp dp:Nat)(g:g8)(d:DS)(X:Chunk)(y:Except Int lI)(r:Value)(post:List Chunk):Prop:=match y with
 | .error e=>e≠0/\r= .tuple #[.agg #[.int .i64 0,.bool false,.slice none 0 0],.int .i64 e]/\post=[.ob (iy lp dp g),.ob (cw dp d),X]
 | .ok x=>∃a c,r= .tuple #[.agg #[.int .i64 x.file,.bool x.fresh,.slice a x.b.length c],.int .i64 (g6 g d).2]/\post=[.ob (a_ (.slice a x.b.length c) 5 1 x.b.length (x.b.map cR)),.ob (iy lp dp (g6 g d).1.1),.ob (cw dp (g6 g d).1.2),X]
theorem qj(X:Chunk)(lp dp:Nat)(g:g8)(d:DS)(v:Value)(p:List UInt8)(hv:ie X v p)(hp:p.length<=140737488355328){M N:Nat}(hg:g.Ok M)(hM:M<=1000000000000000)(b5:d.Ok N)(hN:N<=140737488355328)(iO:d.ops<=100000):
  SP 229 [.pointer (some ⟨lp,0,none⟩),v] [.ob (iy lp dp g),.ob (cw dp d),X] (UW lp dp g d X (jV g d.off p)):=by
 intro W F w hS;apply b5y;delta Lg aF ai bI;(try simp only[app]at hS)
 refine Gm λb w hS=>?_
 refine Cc (qR X lp dp g d v p hv hp hg hM) ?_;clear hS
 rintro r post hQ w hS
 cases jO:jV g d.off p with
 | error e=>
  rw[jO]at hQ
  obtain⟨⟨z,rfl,rfl,hz⟩,rfl⟩:=hQ
  refine Gm λb w hS=>?_
  refine za (λh=>absurd h hz) (λ_=>?_)
  refine Gn λw hS=>?_
  exact⟨_,⟨hz,rfl,rfl⟩,aR hS⟩
 | ok x=>
  rw[jO]at hQ
  obtain⟨a,c,rfl,rfl⟩:=hQ
  refine Gm λb w hS=>?_
  refine za (λ_=>?_) (λh=>absurd rfl h)
  refine Cg (qM lp dp g d N b5 hN iO) λw hS=>?_
  exact⟨_,⟨a,c,rfl,rfl⟩,aR hS⟩
theorem jI.at{W w:World}{l:List Chunk}{v:Value}{t:TypeId}{xs:List d_}{j:Nat}(h:SL W (.ob (f_ v t 4 xs.length (xs.map iP).flatten)::l) w)(hj:j<xs.length):
  ∃b o cap A B,v= .slice (some ⟨b,o,none⟩) xs.length cap/\A.length=o+j*4/\SL W (.pt b (A++(iP xs[j]++B)) t::l) w /\
   ∀y w' l',SL W (.pt b (A++(iP y++B)) t::l') w'->SL W (.ob (f_ v t 4 (xs.set j y).length ((xs.set j y).map iP).flatten)::l') w':=by
 obtain⟨b,pre,cap,rest,rfl,hc,hl,hr,hS⟩:=f_.block h (by omega)
 have e:(xs.map iP).flatten=((xs.take j).map iP).flatten++(iP xs[j]++((xs.drop (j+1)).map iP).flatten):=by
  have tG:xs=xs.take j++xs[j]::xs.drop (j+1):=by rw[<- List.drop_eq_getElem_cons hj,List.take_append_drop]
  have e:=congrArg (λl=>(List.map iP l).flatten) tG
  simp only[List.map_append,List.map_cons,List.flatten_append,List.flatten_cons]at e
  exact e
 have el:((xs.take j).map iP).flatten.length=j*4:=by rw[O',List.length_take];omega
 refine⟨b,pre.length,cap,pre++((xs.take j).map iP).flatten,((xs.drop (j+1)).map iP).flatten++rest,rfl,by rw[List.length_append,el],?_,λy w' l' h'=>?_⟩
 ·rw[e]at hS
  simp only[List.append_assoc]at hS ⊢
  exact hS
 ·have e2:((xs.set j y).map iP).flatten=((xs.take j).map iP).flatten++(iP y++((xs.drop (j+1)).map iP).flatten):=by
   rw[List.set_eq_take_append_cons_drop,if_pos hj]
   simp only[List.map_append,List.map_cons,List.flatten_append,List.flatten_cons]
  have:=f_.mk (b:=b) (t:=t) (sz:=4) (n:=xs.length) (cells:=((xs.set j y).map iP).flatten) (pre:=pre) (rest:=rest) (cap:=cap) hc (by rw[O',List.length_set]) hr rfl (by rw[e2];simp only[List.append_assoc]at h' ⊢;exact h')
  show SL W (.ob (f_ _ t 4 (xs.set j y).length _)::l') w'
  rw[List.length_set]
  exact this
theorem se{A B:List Value}{cs:List Value}{i:Nat}{u:Value}(h:cs[i]?=some u):(A++(cs++B))[A.length+i]?=some u:=by
 rw[List.getElem?_append_right (by omega),Nat.add_sub_cancel_left,List.getElem?_append_left (List.getElem?_eq_some_iff.1 h).1];exact h
theorem EH{A B:List Value}{cs:List Value}{i:Nat}{u:Value}(h:i<cs.length):(A++(cs++B)).set (A.length+i) u=A++(cs.set i u++B):=by
 rw[List.set_append_right _ _ (by omega),Nat.add_sub_cancel_left,List.set_append_left _ _ h]
theorem Di{g:g8}{d:DS}{p:List UInt8}{e:Int}(h:jV g d.off p= .error e):j6 g d p=((g,d),(0,e)):=by
 unfold j6;rw[h]
theorem NP{g:g8}{d:DS}{p:List UInt8}{x:lI}(h:jV g d.off p= .ok x)(hm:(g6 g d).2≠0):j6 g d p=((g6 g d).1,(0,(g6 g d).2)):=by
 unfold j6;rw[h];simp only;rw[if_pos hm]
theorem NN{g:g8}{d:DS}{p:List UInt8}{x:lI}(h:jV g d.off p= .ok x)(hm:(g6 g d).2=0)(ha:((g6 g d).1.2.append x.file x.b).2≠0):
  j6 g d p=(((g6 g d).1.1,((g6 g d).1.2.append x.file x.b).1),(0,((g6 g d).1.2.append x.file x.b).2)):=by
 unfold j6;rw[h];simp only;rw[if_neg (by simp[hm]),if_pos ha]
theorem NQ{g:g8}{d:DS}{p:List UInt8}{x:lI}(h:jV g d.off p= .ok x)(hm:(g6 g d).2=0)(ha:((g6 g d).1.2.append x.file x.b).2=0)(hs:(((g6 g d).1.2.append x.file x.b).1.sync x.file).2≠0):
  j6 g d p=(((g6 g d).1.1,(((g6 g d).1.2.append x.file x.b).1.sync x.file).1),(0,(((g6 g d).1.2.append x.file x.b).1.sync x.file).2)):=by
 unfold j6;rw[h];simp only;rw[if_neg (by simp[hm]),if_neg (by simp[ha]),if_pos hs]
theorem NO{g:g8}{d:DS}{p:List UInt8}{x:lI}(h:jV g d.off p= .ok x)(hm:(g6 g d).2=0)(ha:((g6 g d).1.2.append x.file x.b).2=0)(hs:(((g6 g d).1.2.append x.file x.b).1.sync x.file).2=0):
  j6 g d p=(({(g6 g d).1.1 with bR:=lM g.bR x p},(((g6 g d).1.2.append x.file x.b).1.sync x.file).1),(b9 (lM g.bR x p),0)):=by
 unfold j6;rw[h];simp only;rw[if_neg (by simp[hm]),if_neg (by simp[ha]),if_neg (by simp[hs]),(wm g d).1]
theorem Td(s:DS)(f:Int)(b:List UInt8):(s.append f b).1.ops<=s.ops+1:=by
 unfold DS.append;split<;>simp[DS.f']
theorem a7y(s:DS)(f n:Int):(s.cut f n).1.ops<=s.ops+1:=by
 unfold DS.cut;split
 ·simp
 ·split
  ·simp
  ·split<;>simp[DS.f']
theorem a7z(s:DS)(f:Int):(s.remove f).1.ops<=s.ops+1:=by
 unfold DS.remove;split
 ·simp
 ·split<;>simp[DS.f']
theorem Te(g:g8)(d:DS):(g6 g d).1.2.ops<=d.ops+1:=by
 unfold g6;split
 ·simp
 ·simp only
  split
  ·exact a7z _ _
  ·exact a7y _ _ _
theorem Yz(X:Chunk)(lp dp:Nat)(g:g8)(d:DS)(v:Value)(p:List UInt8)(hv:ie X v p)(hp:p.length<=140737488355328){M N:Nat}(hg:g.Ok M)(hM:M<=1000000000000)(b5:d.Ok N)(hN:N<=140737480000000)(iO:d.ops<=90000):
  SP 147 [.pointer (some ⟨lp,0,none⟩),v] [.ob (iy lp dp g),.ob (cw dp d),X] (dW (.tuple #[.int .i64 (j6 g d p).2.1,.int .i64 (j6 g d p).2.2]) [.ob (iy lp dp (j6 g d p).1.1),.ob (cw dp (j6 g d p).1.2),X]):=by
 intro W F w hS;apply b34;delta Kc aF bF a7 fI aW dI ai bI;(try simp only[app]at hS)
 obtain⟨va,vc,rfl,RP⟩:=hv.sl hS Xh
 refine Cc (qj X lp dp g d _ p hv hp hg (by omega) b5 (by omega) (by omega)) ?_;clear hS
 rintro r post hQ w hS
 cases jO:jV g d.off p with
 | error e=>
  rw[jO]at hQ
  obtain⟨hz,rfl,rfl⟩:=hQ
  rw[Di jO]
  refine Gm λb w hS=>?_
  refine⟨λvs w=>vs=[.int .i64 e]/\SL W (.ob (iy lp dp g)::.ob (cw dp d)::X::F) w,?_,?_⟩
  ·refine Gp ?_
   refine za (λh=>absurd h hz) (λ_=>⟨rfl,aR hS⟩)
  ·clear hS
   rintro v7 w ⟨jy,hS⟩
   cases jy
   refine⟨λvs w=>vs=[.int .i64 e]/\SL W (.ob (iy lp dp g)::.ob (cw dp d)::X::F) w,?_,?_⟩
   ·refine Gp ?_
    refine za (λh=>absurd h hz) (λ_=>⟨rfl,hS⟩)
   ·clear hS
    rintro v7 w ⟨jy,hS⟩
    cases jy
    refine Gp ?_
    refine za (λ_=>?_) (λh=>absurd hz h)
    (exact eF hS)
 | ok x=>
  rw[jO]at hQ
  obtain⟨a,c,rfl,rfl⟩:=hQ
  have hw:=Is hg jO
  have xv:=H0 (g:=g) b5
  have AI:=HZ (d:=d) hg
  have xw:=wm g d
  have Cn:=Te g d
  have u0:=hw.bl
  have hpp:=hw.pl
  refine Gm λb w hS=>?_
  obtain⟨wb,rfl⟩:∃k,k=b:=⟨b,rfl⟩
  by_cases hm:(g6 g d).2=0
  ·
   have PT:=xv.append x.file x.b
   have X2:=Td (g6 g d).1.2 x.file x.b
   have cws:=PT.sync x.file
   have AG:=NO jO hm
   have PR:=NN jO hm
   have wg:=NQ jO hm
   generalize j6 g d p=G at *
   generalize g6 g d=m at *
   obtain⟨⟨g1,d1⟩,me⟩:=m
   simp only at *
   subst hm
   refine⟨λvs w=>vs=[.int .i64 (d1.append x.file x.b).2]/\SL W (.pt wb [.int .i64 x.file,.bool x.fresh,.slice a x.b.length c] 318::.ob (a_ (.slice a x.b.length c) 5 1 x.b.length (x.b.map cR))::.ob (iy lp dp g1)::.ob (cw dp (d1.append x.file x.b).1)::X::F) w,?_,?_⟩
   ·refine Gp ?_
    refine za (λ_=>?_) (λh=>absurd rfl h)
    obtain⟨sv,tv,xs,hx,hS⟩:=iy.iff.1 (SL.b4 hS (t:=.ob (iy lp dp g1)::.pt wb [.int .i64 x.file,.bool x.fresh,.slice a x.b.length c] 318::.ob (a_ (.slice a x.b.length c) 5 1 x.b.length (x.b.map cR))::.ob (cw dp d1)::X::F) Xi)
    refine Gn λw hS=>?_
    refine Cg (Vl (.ob (a_ (.slice a x.b.length c) 5 1 x.b.length (x.b.map cR))) dp d1 N xv (by omega) x.file _ x.b (λhS h=>pW hS h) (by omega)) λw hS=>?_
    have hS:=iy.iff.2 ⟨sv,tv,xs,hx,SL.b4 hS (t:=.pt lp (jP sv tv dp g1.base g1.size) 148::jI sv xs::.ob (zh gI xs)::.ob (ka tv g1.ia)::.pt wb [.int .i64 x.file,.bool x.fresh,.slice a x.b.length c] 318::.ob (a_ (.slice a x.b.length c) 5 1 x.b.length (x.b.map cR))::.ob (cw dp (d1.append x.file x.b).1)::X::F) Xi⟩
    exact aR hS
   ·clear hS
    rintro v7 w ⟨jy,hS⟩
    cases jy
    by_cases ha:(d1.append x.file x.b).2=0
    ·rw[ha]
     refine⟨λvs w=>vs=[.int .i64 ((d1.append x.file x.b).1.sync x.file).2]/\SL W (.pt wb [.int .i64 x.file,.bool x.fresh,.slice a x.b.length c] 318::.ob (a_ (.slice a x.b.length c) 5 1 x.b.length (x.b.map cR))::.ob (iy lp dp g1)::.ob (cw dp ((d1.append x.file x.b).1.sync x.file).1)::X::F) w,?_,?_⟩
     ·refine Gp ?_
      refine za (λ_=>?_) (λh=>absurd rfl h)
      obtain⟨sv,tv,xs,hx,hS⟩:=iy.iff.1 (SL.b4 hS (t:=.ob (iy lp dp g1)::.pt wb [.int .i64 x.file,.bool x.fresh,.slice a x.b.length c] 318::.ob (a_ (.slice a x.b.length c) 5 1 x.b.length (x.b.map cR))::.ob (cw dp (d1.append x.file x.b).1)::X::F) Xi)
      refine Gn λw hS=>?_
      refine Cg (Qu dp (d1.append x.file x.b).1 _ PT (by omega) x.file) λw hS=>?_
      have hS:=iy.iff.2 ⟨sv,tv,xs,hx,SL.b4 hS (t:=.pt lp (jP sv tv dp g1.base g1.size) 148::jI sv xs::.ob (zh gI xs)::.ob (ka tv g1.ia)::.pt wb [.int .i64 x.file,.bool x.fresh,.slice a x.b.length c] 318::.ob (a_ (.slice a x.b.length c) 5 1 x.b.length (x.b.map cR))::.ob (cw dp ((d1.append x.file x.b).1.sync x.file).1)::X::F) Xi⟩
      exact aR hS
     ·clear hS
      rintro v7 w ⟨jy,hS⟩
      cases jy
      by_cases hs:((d1.append x.file x.b).1.sync x.file).2=0
      ·rw[hs]
       have hG:=AG ha hs
       subst hG
       clear AG PR wg X2
       generalize ((d1.append x.file x.b).1.sync x.file).1=d3 at *
       refine Gp ?_
       refine za (λh=>absurd rfl h) (λ_=>?_)
       obtain⟨sv,tv,xs,hx,hS⟩:=iy.iff.1 (SL.b4 hS (t:=.ob (iy lp dp g1)::.pt wb [.int .i64 x.file,.bool x.fresh,.slice a x.b.length c] 318::.ob (cw dp d3)::X::F) Xi)
       obtain⟨r6,rZ,_,_⟩:=AI.xs hx
       have pP:b9 (xs.map d_.pl)=b9 g.bR:=by rw[hx,xw.1]
       have hgd:=hw.hd
       have sE:=u_ hg.bR
       have Hg:=Ib hg hw
       refine⟨λvs w=>vs=[]/\∃kD fF,fF.map d_.pl=sL g.bR x/\fF.length<=xs.length+1/\SL W (.pt lp (jP kD tv dp g1.base g1.size) 148::jI kD fF::.ob (zh gI fF)::.ob (ka tv g1.ia)::.pt wb [.int .i64 x.file,.bool x.fresh,.slice a x.b.length c] 318::.ob (cw dp d3)::X::F) w,?_,?_⟩
       ·refine Gp ?_
        unfold sL
        refine y3 (λhf=>?_) (λhf=>?_)
        ·rw[if_pos hf]
         refine Gn λw hS=>?_
         refine Cg (yl lp (jP sv tv dp g1.base g1.size) 148 sv xs rfl r6 (by omega) (by omega)) λw hS=>?_;refine Gm λb w hS=>?_
         rw[pP]at hS
         have lW:=f_.one hS (v:=sv) (t:=228) (sz:=4) (n:=xs.length) (cells:=(xs.map iP).flatten) Xh
         refine y8 (m:=1) (cs:=[.int .i64 x.file,.int .i64 (b9 g.bR+1),.int .i64 0,.slice none 0 0]) hS Xr (lP hS .hd rfl) rfl rfl (by simp[Value.oneCell']) (by omega) (by omega) ?_
         clear hS;intro kD w hS
         have lW:=f_.one hS (v:=kD) .hd
         refine Gn λw hS=>?_
         have hS:=f_.r9 (a:=none) (t:=62) (sz:=1) hS
         have hS:=zh.nil (A:=ji) (SL.b4 hS (t:=.ob (f_ (.slice none 0 0) 62 1 0 [])::.ob (zh gI xs)::.pt lp (jP kD tv dp g1.base g1.size) 148::.ob (f_ kD 228 4 (xs.length+1) ((xs.map iP).flatten++[.int .i64 x.file,.int .i64 (b9 g.bR+1),.int .i64 0,.slice none 0 0]))::.ob (ka tv g1.ia)::.pt wb [.int .i64 x.file,.bool x.fresh,.slice a x.b.length c] 318::.ob (cw dp d3)::X::F) Xi)
         have hS:=(gI.iff (x:=⟨x.file,b9 g.bR+1,0,[],none,0⟩)).2 (SL.b4 hS (t:=.ob (f_ (.slice none 0 0) 62 1 0 [])::.ob (zh ji [])::.ob (zh gI xs)::.pt lp (jP kD tv dp g1.base g1.size) 148::.ob (f_ kD 228 4 (xs.length+1) ((xs.map iP).flatten++[.int .i64 x.file,.int .i64 (b9 g.bR+1),.int .i64 0,.slice none 0 0]))::.ob (ka tv g1.ia)::.pt wb [.int .i64 x.file,.bool x.fresh,.slice a x.b.length c] 318::.ob (cw dp d3)::X::F) Xi)
         have hS:=zh.snoc (SL.b4 hS (t:=.ob (zh gI xs)::.ob (gI ⟨x.file,b9 g.bR+1,0,[],none,0⟩)::.pt lp (jP kD tv dp g1.base g1.size) 148::.ob (f_ kD 228 4 (xs.length+1) ((xs.map iP).flatten++[.int .i64 x.file,.int .i64 (b9 g.bR+1),.int .i64 0,.slice none 0 0]))::.ob (ka tv g1.ia)::.pt wb [.int .i64 x.file,.bool x.fresh,.slice a x.b.length c] 318::.ob (cw dp d3)::X::F) Xi)
         have e1:xs.length+1=(xs++[(⟨x.file,b9 g.bR+1,0,[],none,0⟩:d_)]).length:=by simp
         have e2:(xs.map iP).flatten++[.int .i64 x.file,.int .i64 (b9 g.bR+1),.int .i64 0,.slice none 0 0]=((xs++[(⟨x.file,b9 g.bR+1,0,[],none,0⟩:d_)]).map iP).flatten:=by simp[iP,d_.lv]
         rw[e1,e2]at hS
         refine⟨kD,xs++[⟨x.file,b9 g.bR+1,0,[],none,0⟩],?_,by simp,aR hS⟩
         rw[List.map_append,hx,xw.1];rfl
        ·rw[if_neg (by rw[hf];decide)]
         exact⟨rfl,sv,xs,by rw[hx,xw.1],by omega,aR hS⟩
       ·clear hS r6 pP
        rintro w ⟨-,kD,fF,mI,xq,hS⟩
        obtain⟨A,s,hA⟩:=EE hw
        rw[A6 _ _ _ hA]
        have hle:0<fF.length:=by
         have:=congrArg List.length mI
         rw[hA]at this;simp at this;omega
        have hj:fF.length-1<fF.length:=by omega
        have tG:fF=fF.take (fF.length-1)++[fF[fF.length-1]]:=by
         conv=>lhs;rw[<- List.take_append_drop (fF.length-1) fF]
         rw[List.drop_eq_getElem_cons hj,List.drop_eq_nil_of_le (by omega)]
        have GG:A=(fF.take (fF.length-1)).map d_.pl/\s=(fF[fF.length-1]).pl:=by
         rw[tG,List.map_append]at mI
         rw[hA]at mI
         have:=List.append_inj' mI rfl
         exact⟨this.1.symm,by simpa using this.2.symm⟩
        obtain⟨xd,tE⟩:=GG
        subst xd tE
        have Cw:=Hg (fF[fF.length-1]).pl (by rw[hA];simp)
        have z1:=Cw.sz
        have z2:=Cw.ln
        have hS:=zh.take (t:=fF.length-1) (SL.b4 hS (t:=.ob (zh gI fF)::jI kD fF::.pt lp (jP kD tv dp g1.base g1.size) 148::.ob (ka tv g1.ia)::.pt wb [.int .i64 x.file,.bool x.fresh,.slice a x.b.length c] 318::.ob (cw dp d3)::X::F) Xi) (List.getElem?_eq_getElem hj)
        have hS:=gI.iff.1 hS
        obtain⟨rb,ro,rc,AA,BB,rfl,Av,hS,mu⟩:=jI.at (SL.b4 hS (t:=jI kD fF::.ob (f_ (fF[fF.length-1]).lv 62 1 (fF[fF.length-1]).es.length (iS (fF[fF.length-1]).es))::.ob (zh ji (fF[fF.length-1]).es)::.ob (zh gI (fF.eraseIdx (fF.length-1)))::.pt lp (jP kD tv dp g1.base g1.size) 148::.ob (ka tv g1.ia)::.pt wb [.int .i64 x.file,.bool x.fresh,.slice a x.b.length c] 318::.ob (cw dp d3)::X::F) Xi) hj
        generalize CF:fF[fF.length-1]=x0 at *
        have z1:x0.size<=M:=z1
        have z2:x0.es.length<=M:=by simpa [d_.pl,s8] using z2
        refine Gn λw hS=>?_
        have e:((fF.length:Nat):Int)-1=((fF.length-1:Nat):Int):=by omega
        rw[e]
        refine zB hj ?_
        rw[<- Av]
        refine Gn λw hS=>?_
        refine zX hS Xh (se (i:=2) (u:=.int .i64 x0.size) rfl) ?_
        refine Gp ?_
        refine Zb hS Xu (se (i:=2) (u:=.int .i64 x0.size) rfl) rfl ?_
        clear hS;intro w hS
        rw[EH (by rw[vA];decide)]at hS
        have e5:(iP x0).set 2 (.int .i64 ((x0.size+x.b.length:Nat):Int))=[.int .i64 x0.file,.int .i64 x0.first,.int .i64 ((x0.size+x.b.length:Nat):Int),x0.lv]:=rfl
        rw[e5]at hS
        refine Gn λw hS=>?_
        refine zX hS Xh (se (i:=3) (u:=x0.lv) rfl) ?_
        refine Zr (cs:=p.map cR) hS (λw' c kA=>hv.src kA (.tl Xh)) (by simp) (nk _) (by omega) ?_
        clear hS;intro u w hS _
        have hu:=hS.nZ .hd
        obtain⟨ua,uc,eu,_⟩:=a_.at hS .hd
        subst eu
        refine zX hS Xh (se (i:=3) (u:=x0.lv) rfl) ?_
        refine Gm λb w hS=>?_
        refine zX hS Xh (se (i:=3) (u:=x0.lv) rfl) ?_
        refine Gp ?_
        refine y8 (t:=62) (sz:=1) (n:=x0.es.length) (cells:=iS x0.es) (m:=1) (cs:=[.slice ua p.length uc]) hS Xr (lP hS .hd rfl) rfl rfl (by simp[Value.oneCell']) (by omega) (by omega) ?_
        clear hS;intro v' w hS
        have lW:=f_.one hS (v:=v') .hd
        obtain⟨a',c',ev,_⟩:=f_.at hS (v:=v') .hd
        subst ev
        refine Gp ?_
        refine Zb hS Xu (se (i:=3) (u:=x0.lv) rfl) lW ?_
        clear hS;intro w hS
        rw[EH (by show 3<4;decide)]at hS
        have e6:([.int .i64 x0.file,.int .i64 x0.first,.int .i64 ((x0.size+x.b.length:Nat):Int),x0.lv]:List Value).set 3 (.slice a' (x0.es.length+1) c')=iP ⟨x0.file,x0.first,x0.size+x.b.length,x0.es++[(.slice ua p.length uc,p)],a',c'⟩:=by
         simp[iP,d_.lv]
        rw[e6]at hS
        let y:d_:=⟨x0.file,x0.first,x0.size+x.b.length,x0.es++[(.slice ua p.length uc,p)],a',c'⟩
        have mJ:(fF.set (fF.length-1) y).map d_.pl=(fF.take (fF.length-1)).map d_.pl++[s6 x0.pl x.b.length p]:=by
         rw[List.set_eq_take_append_cons_drop,if_pos hj,List.drop_eq_nil_of_le (by omega),List.map_append]
         congr 1
         simp[y,d_.pl,s6,nq]
        have Cr:=(It hg hw).1
        rw[A6 _ _ _ hA,<- mJ]at Cr
        have hS:=mu y w _ (SL.b4 hS (t:=.pt rb (AA++(iP y++BB)) 228::.ob (f_ (.slice a' (x0.es.length+1) c') 62 1 (x0.es.length+1) (iS x0.es++[.slice ua p.length uc]))::.ob (a_ (.slice ua p.length uc) 5 1 p.length (p.map cR))::.ob (zh ji x0.es)::.ob (zh gI (fF.eraseIdx (fF.length-1)))::.pt lp (jP (.slice (some ⟨rb,ro,none⟩) fF.length rc) tv dp g1.base g1.size) 148::.ob (ka tv g1.ia)::.ob (cw dp d3)::X::F) Xi)
        have hS:=SL.b4 hS (t:=.ob (a_ (.slice ua p.length uc) 5 1 p.length (p.map cR))::.ob (zh ji x0.es)::.ob (f_ (.slice a' (x0.es.length+1) c') 62 1 (x0.es.length+1) (iS x0.es++[.slice ua p.length uc]))::.ob (zh gI (fF.eraseIdx (fF.length-1)))::jI (.slice (some ⟨rb,ro,none⟩) fF.length rc) (fF.set (fF.length-1) y)::.pt lp (jP (.slice (some ⟨rb,ro,none⟩) fF.length rc) tv dp g1.base g1.size) 148::.ob (ka tv g1.ia)::.ob (cw dp d3)::X::F) Xi
        have hS:SL W (.ob (ji (.slice ua p.length uc,p))::.ob (zh ji x0.es)::.ob (f_ (.slice a' (x0.es.length+1) c') 62 1 (x0.es.length+1) (iS x0.es++[.slice ua p.length uc]))::.ob (zh gI (fF.eraseIdx (fF.length-1)))::jI (.slice (some ⟨rb,ro,none⟩) fF.length rc) (fF.set (fF.length-1) y)::.pt lp (jP (.slice (some ⟨rb,ro,none⟩) fF.length rc) tv dp g1.base g1.size) 148::.ob (ka tv g1.ia)::.ob (cw dp d3)::X::F) w:=hS
        have hS:=zh.snoc (hS.perm (.swap _ _ _))
        have e7:x0.es.length+1=y.es.length:=by simp[y]
        have e8:iS x0.es++[.slice ua p.length uc]=iS y.es:=by simp[y,iS]
        rw[e7,e8]at hS
        have hS:=(gI.iff (x:=y)).2 (SL.b4 hS (t:=.ob (f_ (.slice a' y.es.length c') 62 1 y.es.length (iS y.es))::.ob (zh ji (x0.es++[(.slice ua p.length uc,p)]))::.ob (zh gI (fF.eraseIdx (fF.length-1)))::jI (.slice (some ⟨rb,ro,none⟩) fF.length rc) (fF.set (fF.length-1) y)::.pt lp (jP (.slice (some ⟨rb,ro,none⟩) fF.length rc) tv dp g1.base g1.size) 148::.ob (ka tv g1.ia)::.ob (cw dp d3)::X::F) Xi)
        have hS:=zh.put hS hj
        refine Gp ?_
        refine Cg (yl lp (jP (.slice (some ⟨rb,ro,none⟩) fF.length rc) tv dp g1.base g1.size) 148 (.slice (some ⟨rb,ro,none⟩) fF.length rc) (fF.set (fF.length-1) y) rfl Cr (by omega) (by rw[List.length_set];omega)) λw hS=>?_
        rw[mJ]
        have hS:=(iy.iff (g:={bR:=(fF.take (fF.length-1)).map d_.pl++[s6 x0.pl x.b.length p],base:=g1.base,size:=g1.size,ia:=g1.ia})).2 ⟨_,tv,fF.set (fF.length-1) y,mJ,SL.b4 hS (t:=.pt lp (jP (.slice (some ⟨rb,ro,none⟩) fF.length rc) tv dp g1.base g1.size) 148::jI (.slice (some ⟨rb,ro,none⟩) fF.length rc) (fF.set (fF.length-1) y)::.ob (zh gI (fF.set (fF.length-1) y))::.ob (ka tv g1.ia)::.ob (cw dp d3)::X::F) Xi⟩
        exact eF hS
      ·have hG:=wg ha hs
       subst hG
       refine Gp ?_
       refine za (λ_=>?_) (λh=>absurd hs h)
       (exact eF hS)
    ·have hG:=PR ha
     subst hG
     refine⟨λvs w=>vs=[.int .i64 (d1.append x.file x.b).2]/\SL W (.ob (iy lp dp g1)::.ob (cw dp (d1.append x.file x.b).1)::X::F) w,?_,?_⟩
     ·refine Gp ?_
      refine za (λh=>absurd h ha) (λ_=>⟨rfl,aR hS⟩)
     ·clear hS
      rintro v7 w ⟨jy,hS⟩
      cases jy
      refine Gp ?_
      refine za (λ_=>?_) (λh=>absurd ha h)
      (exact eF hS)
  ·rw[NP jO hm]
   refine⟨λvs w=>vs=[.int .i64 (g6 g d).2]/\SL W (.ob (iy lp dp (g6 g d).1.1)::.ob (cw dp (g6 g d).1.2)::X::F) w,?_,?_⟩
   ·refine Gp ?_
    refine za (λh=>absurd h hm) (λ_=>⟨rfl,aR hS⟩)
   ·clear hS
    rintro v7 w ⟨jy,hS⟩
    cases jy
    refine⟨λvs w=>vs=[.int .i64 (g6 g d).2]/\SL W (.ob (iy lp dp (g6 g d).1.1)::.ob (cw dp (g6 g d).1.2)::X::F) w,?_,?_⟩
    ·refine Gp ?_
     refine za (λh=>absurd h hm) (λ_=>⟨rfl,hS⟩)
    ·clear hS
     rintro v7 w ⟨jy,hS⟩
     cases jy
     refine Gp ?_
     refine za (λ_=>?_) (λh=>absurd hm h)
     (exact eF hS)
theorem Y3(lp dp:Nat)(g:g8)(d:DS){M N:Nat}(PX:0<=g.base)(vX:g.base<=12288)(b5:d.Ok N)(hR:d.R.length<=100000):
  SP 137 [.pointer (some ⟨lp,0,none⟩)] [.ob (iy lp dp g),.ob (cw dp d)] (λv post=>post=[.ob (a_ v 3 1 (jD g.base d.R).length ((jD g.base d.R).map (Value.int .i64))),.ob (iy lp dp g),.ob (cw dp d)]):=by
 intro W F w hS;apply b3u;delta J4 aF bF ai bI;(try simp only[app]at hS)
 obtain⟨sv,tv,xs,hx,hS⟩:=iy.iff.1 hS
 refine Gp ?_
 refine Cc (Y2 dp d N b5 hR) ?_;clear hS
 rintro fl post rfl w hS
 try simp only[app]at hS
 refine zt hS (t:=3) (sz:=1) (n:=d.R.length) (cells:=d.R.map λx=>.int .i64 x.id) Xh ?_
 have hS:SL W (.ob (a_ (.slice none 0 0) 3 1 (jD g.base (d.R.take 0)).length ((jD g.base (d.R.take 0)).map (Value.int .i64)))::_) w:=a_.nil hS
 refine⟨λvs w=>∃(u:Value) (i:Nat),i<=d.R.length/\vs=[u,.int .i64 i]/\SL W (.ob (a_ u 3 1 (jD g.base (d.R.take i)).length ((jD g.base (d.R.take i)).map (Value.int .i64)))::.pt lp (jP sv tv dp g.base g.size) 148::jI sv xs::.ob (zh gI xs)::.ob (ka tv g.ia)::.ob (cw dp d)::.ob (a_ fl 3 1 d.R.length (d.R.map λx=>.int .i64 x.id))::F) w,
  λvs _=>match vs with|[_,.int _ i]=>(d.R.length-i).toNat|_=>0,⟨.slice none 0 0,0,by omega,rfl,aR hS⟩,?_⟩
 clear hS
 rintro v3 oK w ⟨u,i,hi,jy,hS⟩
 cases jy
 refine bW (λh=>?_) (λh=>?_)
 ·have b3:i<d.R.length:=by omega
  have hu:(d.R.map λx=>Value.int .i64 x.id)[i]?=some (.int .i64 d.R[i].id):=by simp[b3]
  have b_7:(jD g.base (d.R.take i)).length<=100000:=by
   unfold jD
   have:=List.length_filter_le (λf=>decide (g.base<=f/\f<g.base+4096)) ((d.R.take i).map PF.id)
   rw[List.length_map,List.length_take]at this
   omega
  have lL:jD g.base (d.R.take (i+1))=jD g.base (d.R.take i)++if g.base<=d.R[i].id/\d.R[i].id<g.base+4096 then [d.R[i].id] else []:=by
   unfold jD
   rw[List.take_add_one,List.getElem?_eq_getElem b3,List.map_append,List.filter_append]
   congr 1
   simp only[Option.toList_some,List.map_cons,List.map_nil,List.filter_cons,List.filter_nil,decide_eq_true_eq]
  have ur:∀{w:World} {u:Value},(jD g.base (d.R.take (i+1))=jD g.base (d.R.take i))->SL W (.ob (a_ u 3 1 (jD g.base (d.R.take i)).length ((jD g.base (d.R.take i)).map (Value.int .i64)))::.pt lp (jP sv tv dp g.base g.size) 148::jI sv xs::.ob (zh gI xs)::.ob (ka tv g.ia)::.ob (cw dp d)::.ob (a_ fl 3 1 d.R.length (d.R.map λx=>.int .i64 x.id))::F) w ->
    (∃(u':Value) (i':Nat),i'<=d.R.length/\[u,Value.int .i64 ((i+1:Nat):Int)]=[u',.int .i64 i']/\SL W (.ob (a_ u' 3 1 (jD g.base (d.R.take i')).length ((jD g.base (d.R.take i')).map (Value.int .i64)))::.pt lp (jP sv tv dp g.base g.size) 148::jI sv xs::.ob (zh gI xs)::.ob (ka tv g.ia)::.ob (cw dp d)::.ob (a_ fl 3 1 d.R.length (d.R.map λx=>.int .i64 x.id))::F) w):=λe h=>⟨_,i+1,by omega,rfl,by rw[e];exact h⟩
  refine z8 hS (t:=3) Xh b3 hu ?_
  refine bW (λh1=>?_) (λh1=>?_)
  ·refine bW (λh2=>?_) (λh2=>?_)
   ·rw[if_pos ⟨h1,h2⟩]at lL
    refine Gm λb w hS=>?_
    refine zx (m:=1) (cs:=[.int .i64 d.R[i].id]) hS Xr (lP hS .hd rfl) rfl rfl (by simp[Value.oneCell']) (by omega) (by omega) ?_
    clear hS;intro v' w hS
    have e1:(jD g.base (d.R.take i)).length+1=(jD g.base (d.R.take (i+1))).length:=by rw[lL,List.length_append];rfl
    have e2:(jD g.base (d.R.take i)).map (Value.int .i64)++[Value.int .i64 d.R[i].id]=(jD g.base (d.R.take (i+1))).map (Value.int .i64):=by rw[lL,List.map_append];rfl
    rw[e1,e2]at hS
    refine Gp ?_
    exact⟨⟨v',i+1,by omega,rfl,aR hS⟩,by dsimp only;omega⟩
   ·rw[if_neg (by omega),List.append_nil]at lL
    refine Gp ?_
    exact⟨ur lL hS,by dsimp only;omega⟩
  ·rw[if_neg (by omega),List.append_nil]at lL
   refine Gp ?_
   exact⟨ur lL hS,by dsimp only;omega⟩
 ·have mS:i=d.R.length:=by omega
  subst mS
  rw[List.take_length]at hS
  have hS:=(iy.iff (g:=g)).2 ⟨sv,tv,xs,hx,SL.b4 hS (t:=.pt lp (jP sv tv dp g.base g.size) 148::jI sv xs::.ob (zh gI xs)::.ob (ka tv g.ia)::.ob (a_ v3 3 1 (jD g.base d.R).length ((jD g.base d.R).map (Value.int .i64)))::.ob (cw dp d)::F) Xi⟩
  exact⟨_,rfl,aR hS⟩
theorem TU(f:Nat):∀b:List UInt8,b.length<f->(∀p∈(lA b).1,p.length<=1048576)/\(lA b).1.length<=(lA b).2:=by
 induction f with
 | zero=>intro b h;omega
 | succ f ih=>
  intro b hb
  cases h:kR b with
  | error e=>rw[CW h];exact⟨by simp,by simp⟩
  | ok x=>
   obtain⟨p,n⟩:=x
   have h2:=xU h
   obtain⟨i1,i2⟩:=ih (b.drop n) (by rw[List.length_drop];omega)
   rw[ER h]
   refine⟨λq hq=>?_,?_⟩
   ·rcases List.mem_cons.1 hq with rfl|hq
    ·exact h2.2.2.1
    ·exact i1 q hq
   ·show (p::(lA (b.drop n)).1).length<=n+(lA (b.drop n)).2
    rw[List.length_cons];omega
theorem Iz{q:List UInt8}{f:Int}{l:List (List UInt8)}{n:Nat}(h:jK q=some (f,l,n)):1<=f/\f<=1099511627776/\n<=q.length/\l.length<=q.length/\∀p∈l,p.length<=1048576:=by
 obtain⟨h1,h2⟩:=TU (q.length+1) q (by omega)
 have h3:=bRa (q.length+1) q (by omega)
 unfold jK at h
 split at h
 ·cases h
 ·rename_i hd l' hs
  rw[hs]at h1 h2
  cases hh:pr hd with
  | none=>rw[hh]at h;cases h
  | some k=>
   rw[hh]at h
   cases h
   have hk:1<=f/\f<=1099511627776:=by
    unfold pr at hh
    split at hh
    ·unfold AB at hh
     split at hh
     ·split at hh
      ·rename_i hc
       cases hh;exact⟨hc.2.1,hc.2.2⟩
      ·cases hh
     ·cases hh
    ·cases hh
   refine⟨hk.1,hk.2,h3,?_,λp hp=>h1 p (.tail _ hp)⟩
   rw[List.length_cons]at h2;omega
def sr(R:List PF)(base:Int)(N:Nat):Prop:=∀x∈R,base<=x.id->x.id<base+4096->x.b.length<=N
theorem sr.all{R:List PF}{N:Nat}(h:∀x∈R,x.b.length<=N)(base:Int):sr R base N:=λx hx _ _=>h x hx
theorem sr.at_{R:List PF}{base:Int}{N:Nat}(h:sr R base N){f:Int}(hf:base<=f/\f<base+4096):∀x,ij PF.id R f=some x->x.b.length<=N:=λx hx=>by
 obtain⟨h1,h2⟩:=ug hx
 have h2:x.id=f:=h2
 exact h x h1 (by omega) (by omega)
theorem HT{L:List fW}{R:List PF}{f:Int}{last:Bool}{M N:Nat}(hR:∀x,ij PF.id R f=some x->x.b.length<=N)(hN:N<=M)(f0:0<=f)(f1:f<=100000)(hL:∀s∈L,mO s M):(∀s∈(l9 L R f last).2,mO s M)/\(l9 L R f last).2.length<=L.length+1:=by
 have hq:(((ij PF.id R f).map PF.b).getD []).length<=N:=by
  cases hg:ij PF.id R f with
  | none=>simp
  | some x=>exact hR x hg
 unfold l9
 generalize ((ij PF.id R f).map PF.b).getD []=q at *
 simp only
 cases hr:jK q with
 | none=>exact⟨hL,by simp⟩
 | some y=>
  obtain⟨k,l,n⟩:=y
  have:=Iz hr
  simp only
  split
  ·exact⟨hL,by simp⟩
  ·refine⟨λs hs=>?_,by simp⟩
   rcases List.mem_append.1 hs with hs|hs
   ·exact hL s hs
   ·rw[List.mem_singleton.1 hs]
    exact⟨f0,f1,this.1,this.2.1,by show n<=M;omega,by show l.length<=M;omega,this.2.2.2.2⟩
theorem qL(lp dp:Nat)(g:g8)(d:DS)(f:Int)(last:Bool){M B N:Nat}(hg:g.Ok M)(hM:M<=1000000000000)(b5:d.Ok B)(hB:B<=140737488355328)(hfN:∀x,ij PF.id d.R f=some x->x.b.length<=N)(hN:N<=10000000000):
  SP 138 [.pointer (some ⟨lp,0,none⟩),.int .i64 f,.bool last] [.ob (iy lp dp g),.ob (cw dp d)] (dW (.tuple #[.bool (l9 g.bR d.R f last).1.1,.bool (l9 g.bR d.R f last).1.2]) [.ob (iy lp dp {g with bR:=(l9 g.bR d.R f last).2}),.ob (cw dp d)]):=by
 intro W F w hS;apply b3v;delta J5 aF bF a7 aW dI c_ ai bI;(try simp only[app]at hS)
 obtain⟨sv,tv,xs,hx,hS⟩:=iy.iff.1 hS
 obtain⟨r6,rZ,Rf,B'⟩:=hg.xs hx
 have pP:b9 (xs.map d_.pl)=b9 g.bR:=by rw[hx]
 have xl:g.bR.length=xs.length:=by rw[<- hx,List.length_map]
 refine Gp ?_
 refine Cc (Z0 dp d B b5 hB f) ?_;clear hS
 rintro r post hQ w hS
 have hq:(((ij PF.id d.R f).map PF.b).getD []).length<=N:=by
  cases hg:ij PF.id d.R f with
  | none=>simp
  | some x=>exact hfN x hg
 have rr:l9 g.bR d.R f last=match jK (((ij PF.id d.R f).map PF.b).getD []) with
  | none=>((false,last),g.bR)
  | some (first,l,n)=>if (last=false/\(n≠(((ij PF.id d.R f).map PF.b).getD []).length\/l.length=0))\/(0<g.bR.length/\first≠b9 g.bR+1)\/1099511627776<first+l.length-1 then ((true,false),g.bR)
   else ((true,true),g.bR++[⟨f,first,n,l⟩]):=rfl
 have gw:∃(X:Chunk) (a:Option Addr) (c:Nat) (bb:Bool),r= .tuple #[.slice a (((ij PF.id d.R f).map PF.b).getD []).length c,.bool bb]/\ie X (.slice a (((ij PF.id d.R f).map PF.b).getD []).length c) (((ij PF.id d.R f).map PF.b).getD [])/\SL W (X::.ob (cw dp d)::.pt lp (jP sv tv dp g.base g.size) 148::jI sv xs::.ob (zh gI xs)::.ob (ka tv g.ia)::F) w:=by
  unfold Br at hQ
  cases hg:ij PF.id d.R f with
  | none=>
   rw[hg]at hQ
   obtain⟨rfl,rfl⟩:=hQ
   try simp only[app]at hS
   exact⟨.mem bw.emp,none,0,false,rfl,ie.nil,SL.b4 hS.HX Xi⟩
  | some x=>
   rw[hg]at hQ
   obtain⟨u,rfl,rfl⟩:=hQ
   try simp only[app]at hS
   obtain⟨a,c,rfl,_⟩:=a_.at hS (v:=u) (t:=5) (sz:=1) (n:=x.b.length) (cells:=x.b.map cR) Xh
   exact⟨.ob (a_ (.slice a x.b.length c) 5 1 x.b.length (x.b.map cR)),a,c,true,rfl,ie.own,aR hS⟩
 clear hS hQ
 obtain⟨X,a,c,bb,rfl,hX,hS⟩:=gw
 rw[rr]
 clear rr
 generalize ((ij PF.id d.R f).map PF.b).getD []=q at *
 refine Gp ?_
 refine Cc (YU X _ q hX (by omega)) ?_;clear hS
 rintro r post hQ w hS
 unfold uL at hQ
 cases hr:jK q with
 | none=>
  rw[hr]at hQ
  obtain⟨rfl,rfl⟩:=hQ
  (try simp only[app]at hS);refine Gp ?_
  refine za (λ_=>?_) (λh=>absurd (by decide) h)
  have hS:=(iy.iff (g:=g)).2 ⟨sv,tv,xs,hx,SL.b4 hS (t:=.pt lp (jP sv tv dp g.base g.size) 148::jI sv xs::.ob (zh gI xs)::.ob (ka tv g.ia)::.ob (cw dp d)::F) Xi⟩
  exact eF hS
 | some y=>
  obtain⟨first,l,n⟩:=y
  have vi:=Iz hr
  rw[hr]at hQ
  obtain⟨u,es,he,rfl,rfl⟩:=hQ
  try simp only[app]at hS
  have pO:l.length=es.length:=by rw[<- he,s8]
  obtain⟨ua,uc,rfl,_⟩:=f_.at hS (v:=u) .hd
  obtain⟨r1,r2,r3,r4,r5⟩:=vi
  simp only[pO,xl]
  have cwq:mO (d_.pl ⟨f,first,n,es,ua,uc⟩) M\/True:=.inr trivial
  refine Gp ?_
  refine za (λh=>absurd rfl h) (λ_=>?_)
  refine Gm λb w hS=>?_
  obtain⟨sb,rfl⟩:∃k,k=b:=⟨b,rfl⟩
  obtain⟨I,hI⟩:∃I:List Value->World->Prop,I=λvs w=>∃bad:Bool,vs=[.bool bad]/\(bad=true↔((last=false/\(n≠q.length\/es.length=0))\/(0<xs.length/\first≠b9 g.bR+1)\/1099511627776<first+es.length-1)) /\
   SL W (.pt sb [.int .i64 f,.int .i64 first,.int .i64 n,.slice ua es.length uc] 228::.ob (f_ (.slice ua es.length uc) 62 1 es.length (iS es))::.ob (zh ji es)::.ob (cw dp d)::.pt lp (jP sv tv dp g.base g.size) 148::jI sv xs::.ob (zh gI xs)::.ob (ka tv g.ia)::F) w:=⟨_,rfl⟩
  refine⟨I,?_,?_⟩
  ·have nI:∀(w:World) (K:Value->World->Prop),¬(last=false/\(n≠q.length\/es.length=0))->SL W (.pt sb [.int .i64 f,.int .i64 first,.int .i64 n,.slice ua es.length uc] 228::.ob (f_ (.slice ua es.length uc) 62 1 es.length (iS es))::.ob (zh ji es)::.ob (cw dp d)::.pt lp (jP sv tv dp g.base g.size) 148::jI sv xs::.ob (zh gI xs)::.ob (ka tv g.ia)::F) w ->
     (∀(bad:Bool) w,(bad=true↔((last=false/\(n≠q.length\/es.length=0))\/(0<xs.length/\first≠b9 g.bR+1)\/1099511627776<first+es.length-1))->SL W (.pt sb [.int .i64 f,.int .i64 first,.int .i64 n,.slice ua es.length uc] 228::.ob (f_ (.slice ua es.length uc) 62 1 es.length (iS es))::.ob (zh ji es)::.ob (cw dp d)::.pt lp (jP sv tv dp g.base g.size) 148::jI sv xs::.ob (zh gI xs)::.ob (ka tv g.ia)::F) w->K (.bool bad) w) ->
     (YX (.pointer (some ⟨lp,0,none⟩)) λE_=>zr 0 E_ λv55=>zr 0 v55 λv56=>b6 v56 w λv57=>zd v57 λUy=>zc .gtr Uy (.int .i64 0) λUz=>
      ic Uz
      (YX (.pointer (some ⟨lp,0,none⟩)) λv63=>zr 0 v63 λv64=>aw 69 [v64] w λI' Jd=>zc .add I' (.int .i64 1) λv66=>zc .neq (.int .i64 first) v66 λI_=>
       ic I_ (K (.bool true) Jd)
       (zj 4 (.pointer (some ⟨sb,0,none⟩)) Jd λv71=>aw 152 [v71] Jd λv72 w_6=>zc .sub v72 (.int .i64 1) λv73=>zc .gtr v73 (.int .i64 1099511627776) λv74=>K v74 w_6))
      (zj 4 (.pointer (some ⟨sb,0,none⟩)) w λbWw=>aw 152 [bWw] w λbWy Je=>zc .sub bWy (.int .i64 1) λbW0=>zc .gtr bW0 (.int .i64 1099511627776) λbW2=>K bW2 Je)):=by
    intro w K hn hS hK
    clear bb
    refine Gp ?_
    refine zW hS (v:=sv) (t:=228) (sz:=4) (n:=xs.length) (cells:=(xs.map iP).flatten) Xh ?_
    refine bW (λh1=>?_) (λh1=>?_)
    ·refine Gp ?_
     refine Cg (yl lp (jP sv tv dp g.base g.size) 148 sv xs rfl r6 (by omega) (by omega)) λw hS=>?_
     rw[pP]
     refine za (λh2=>?_) (λh2=>?_)
     ·refine hK true _ ⟨λ_=>.inr (.inl ⟨by omega,by omega⟩),λ_=>rfl⟩ (aR hS)
     ·refine Gp ?_
      refine Cg (yX f first n ua es.length uc (by omega) (by omega)) λw hS=>?_
      refine hK _ _ ⟨λh=>.inr (.inr (by simpa using h)),λh=>?_⟩ (aR hS)
      rcases h with h|h|h
      ·exact absurd h hn
      ·omega
      ·simpa using h
    ·refine Gp ?_
     refine Cg (yX f first n ua es.length uc (by omega) (by omega)) λw hS=>?_
     refine hK _ _ ⟨λh=>.inr (.inr (by simpa using h)),λh=>?_⟩ (aR hS)
     rcases h with h|h|h
     ·exact absurd h hn
     ·omega
     ·simpa using h
   cases last with
   | false=>
    refine zP ?_
    refine zw ?_
    refine bW (λh1=>?_) (λh1=>?_)
    ·rw[hI];exact⟨true,rfl,⟨λ_=>.inl ⟨rfl,.inl (by omega)⟩,λ_=>rfl⟩,aR hS⟩
    ·refine bW (λh2=>?_) (λh2=>?_)
     ·rw[hI];exact⟨true,rfl,⟨λ_=>.inl ⟨rfl,.inr (by omega)⟩,λ_=>rfl⟩,aR hS⟩
     ·exact nI w (λv w=>I [v] w) (by omega) (aR hS) (λbad w hb h=>by rw[hI];exact⟨bad,rfl,hb,h⟩)
   | true=>
    refine zP ?_
    refine zq ?_
    exact nI w (λv w=>I [v] w) (by simp) (aR hS) (λbad w hb h=>by rw[hI];exact⟨bad,rfl,hb,h⟩)
  ·clear hS
   rw[hI]
   rintro v75 w ⟨bad,jy,g9,hS⟩
   cases jy
   cases bad with
   | true=>
    refine zw ?_
    rw[if_pos (g9.1 rfl)]
    have hS:=(iy.iff (g:=g)).2 ⟨sv,tv,xs,hx,SL.b4 hS (t:=.pt lp (jP sv tv dp g.base g.size) 148::jI sv xs::.ob (zh gI xs)::.ob (ka tv g.ia)::.ob (cw dp d)::F) Xi⟩
    exact eF hS
   | false=>
    refine zq ?_
    rw[if_neg (λh=>by have:=g9.2 h;cases this)]
    refine Gm λb w hS=>?_
    refine y8 (t:=228) (sz:=4) (n:=xs.length) (cells:=(xs.map iP).flatten) (m:=1) (cs:=[.int .i64 f,.int .i64 first,.int .i64 n,.slice ua es.length uc]) hS Xr (lP hS .hd rfl) rfl rfl (by simp[Value.oneCell']) (by omega) (by omega) ?_
    clear hS;intro kD w hS
    have lW:=f_.one hS (v:=kD) .hd
    refine Gn λw hS=>?_
    have hS:=(gI.iff (x:=⟨f,first,n,es,ua,uc⟩)).2 (SL.b4 hS (t:=.ob (f_ (.slice ua es.length uc) 62 1 es.length (iS es))::.ob (zh ji es)::.ob (zh gI xs)::.ob (cw dp d)::.pt lp (jP kD tv dp g.base g.size) 148::.ob (f_ kD 228 4 (xs.length+1) ((xs.map iP).flatten++[.int .i64 f,.int .i64 first,.int .i64 n,.slice ua es.length uc]))::.ob (ka tv g.ia)::F) Xi)
    have hS:=zh.snoc (hS.b4 (t:=.ob (zh gI xs)::.ob (gI ⟨f,first,n,es,ua,uc⟩)::.ob (cw dp d)::.pt lp (jP kD tv dp g.base g.size) 148::.ob (f_ kD 228 4 (xs.length+1) ((xs.map iP).flatten++[.int .i64 f,.int .i64 first,.int .i64 n,.slice ua es.length uc]))::.ob (ka tv g.ia)::F) Xi)
    have e1:xs.length+1=(xs++[(⟨f,first,n,es,ua,uc⟩:d_)]).length:=by simp
    have e2:(xs.map iP).flatten++[.int .i64 f,.int .i64 first,.int .i64 n,.slice ua es.length uc]=((xs++[(⟨f,first,n,es,ua,uc⟩:d_)]).map iP).flatten:=by simp[iP,d_.lv]
    rw[e1,e2]at hS
    have mJ:(xs++[(⟨f,first,n,es,ua,uc⟩:d_)]).map d_.pl=g.bR++[⟨f,first,n,l⟩]:=by
     rw[List.map_append,hx];simp[d_.pl,he]
    have hS:=(iy.iff (g:={g with bR:=g.bR++[⟨f,first,n,l⟩]})).2 ⟨kD,tv,xs++[⟨f,first,n,es,ua,uc⟩],mJ,SL.b4 hS (t:=.pt lp (jP kD tv dp g.base g.size) 148::jI kD (xs++[⟨f,first,n,es,ua,uc⟩])::.ob (zh gI (xs++[⟨f,first,n,es,ua,uc⟩]))::.ob (ka tv g.ia)::.ob (cw dp d)::F) Xi⟩
    exact eF hS
theorem YY(lp dp:Nat)(g:g8)(d:DS)(iv:Value)(ids:List Int)(whole:Bool){M N:Nat}(hg:g.Ok M)(hM:M<=1000000000000)(b5:d.Ok N)(hN:N<=140737488355328)(iO:d.ops<=100000)(iW:whole=true->ids≠[]->g.bR≠[])(b3:ids.length<=100000):
  SP 139 [.pointer (some ⟨lp,0,none⟩),iv,.bool whole] [.ob (iy lp dp g),.ob (cw dp d),.ob (a_ iv 3 1 ids.length (ids.map (Value.int .i64)))]
   (dW (.int .i64 (lr g.bR d ids whole).2) [.ob (iy lp dp g),.ob (cw dp (lr g.bR d ids whole).1),.ob (a_ iv 3 1 ids.length (ids.map (Value.int .i64)))]):=by
 intro W F w hS;apply b3w;delta J6 aF bF a7 dI c_ ai;(try simp only[app]at hS)
 obtain⟨sv,tv,xs,hx,hS⟩:=iy.iff.1 hS
 obtain⟨r6,rZ,_,_⟩:=hg.xs hx
 have k8:∀{w:World} {d':DS},SL W (.pt lp (jP sv tv dp g.base g.size) 148::jI sv xs::.ob (zh gI xs)::.ob (ka tv g.ia)::.ob (cw dp d')::.ob (a_ iv 3 1 ids.length (ids.map (Value.int .i64)))::F) w->SL W (.ob (iy lp dp g)::.ob (cw dp d')::.ob (a_ iv 3 1 ids.length (ids.map (Value.int .i64)))::F) w:=λh=>(iy.iff (g:=g)).2 ⟨_,tv,_,hx,h⟩
 refine zt hS (v:=iv) (t:=3) (sz:=1) (n:=ids.length) (cells:=ids.map (Value.int .i64)) Xh ?_
 refine bW (λh=>?_) (λh=>?_)
 ·have:ids=[]:=List.eq_nil_of_length_eq_zero (by omega)
  subst this
  have hS:=k8 (aR hS)
  exact⟨_,⟨rfl,rfl⟩,hS⟩
 ·have hj:ids.length-1<ids.length:=by omega
  have xl:ids.getLast?=some (ids[ids.length-1]'hj):=by rw[List.getLast?_eq_getElem?,List.getElem?_eq_getElem hj]
  have awo:ids≠[]:=λe=>by rw[e]at h;simp at h
  have hu:(ids.map (Value.int .i64))[ids.length-1]?=some (.int .i64 (ids[ids.length-1]'hj)):=by simp[hj]
  generalize (ids[ids.length-1]'hj)=f at *
  refine zt hS (v:=iv) (t:=3) (sz:=1) (n:=ids.length) (cells:=ids.map (Value.int .i64)) Xh ?_
  refine Gp ?_
  have e:((ids.length:Nat):Int)-1=((ids.length-1:Nat):Int):=by omega
  rw[e]
  refine z8 hS (v:=iv) (t:=3) Xh hj hu ?_
  cases whole with
  | false=>
   have hb:lr g.bR d ids false=d.remove f:=by unfold lr;rw[xl];rfl
   rw[hb]
   refine zP ?_
   refine zw ?_
   refine Gp ?_
   refine Cg (Zo dp d N b5 iO f) λw hS=>?_
   have hS:=k8 (aR hS)
   exact⟨_,⟨rfl,rfl⟩,hS⟩
  | true=>
   have hb:lr g.bR d ids true=if r8 g.bR<pS d.R f then d.cut f (r8 g.bR) else (d,0):=by unfold lr;rw[xl];rfl
   rw[hb]
   refine zP ?_
   refine zq ?_
   have hn:=iW rfl awo
   have hle:0<xs.length:=by
    rcases Nat.eq_zero_or_pos xs.length with h0|h0
    ·rw[<- hx,List.eq_nil_of_length_eq_zero h0]at hn;exact absurd rfl hn
    ·exact h0
   have o5:xs.length-1<xs.length:=by omega
   have Ha:r8 g.bR=((xs[xs.length-1]'o5).size:Nat):=by
    unfold r8
    rw[<- hx,List.getLast?_map,List.getLast?_eq_getElem?,List.getElem?_eq_getElem o5];rfl
   rw[Ha]
   refine Gn λw hS=>?_
   refine zW hS (v:=sv) (t:=228) (sz:=4) (n:=xs.length) (cells:=(xs.map iP).flatten) Xh ?_
   refine Gp ?_
   have e:((xs.length:Nat):Int)-1=((xs.length-1:Nat):Int):=by omega
   rw[e]
   refine TQ (i:=2) hS Xh o5 (u:=.int .i64 ((xs[xs.length-1]'o5).size:Nat)) rfl ?_
   generalize (xs[xs.length-1]'o5).size=z at *
   refine Gp ?_
   refine Cg (Q2 dp d f) λw hS=>?_
   refine za (λh1=>?_) (λh1=>?_)
   ·rw[if_pos h1]
    refine Gp ?_
    refine Cg (Yg dp d N b5 (by omega) iO f (z:Int)) λw hS=>?_
    have hS:=k8 (aR hS)
    exact⟨_,⟨rfl,rfl⟩,hS⟩
   ·rw[if_neg h1]
    have hS:=k8 (aR hS)
    exact⟨_,⟨rfl,rfl⟩,hS⟩
def Fl(dp:Nat)(y:DS × Except Int g8)(r:Value)(post:List Chunk):Prop:=match y.2 with
 | .error e=>e≠0/\r= .tuple #[.pointer none,.int .i64 e]/\post=[.ob (cw dp y.1)]
 | .ok g=>∃lp:Nat,r= .tuple #[.pointer (some ⟨lp,0,none⟩),.int .i64 0]/\post=[.ob (iy lp dp g),.ob (cw dp y.1)]
theorem Ss{R:List PF}{M N:Nat}{base:Int}(hR:sr R base N)(hN:N<=M)(b0:0<=base)(b1:base<=12288):∀(ids:List Int) (prev:Option Int) (L:List fW) (wh:Bool) (k:Nat),(∀f∈ids,base<=f/\f<base+4096)->(∀s∈L,mO s M)->L.length<=k->∀{L' xW},mK R ids prev L wh=some (L',xW)->(∀s∈L',mO s M)/\L'.length<=k+ids.length
 | [],prev,L,wh,k,_,hL,hk,L',xW,h=>by
  cases h;exact⟨hL,by simpa using hk⟩
 | f::r,prev,L,wh,k,hf,hL,hk,L',xW,h=>by
  rw[CL]at h
  obtain⟨f0,f1⟩:=hf f (.head _)
  obtain⟨k1,k2⟩:=HT (last:=r.isEmpty) (hR.at_ ⟨f0,f1⟩) hN (by omega) (by omega) hL
  split at h
  ·cases h
  ·split at h
   ·cases h
   ·have:=Ss hR hN b0 b1 r _ _ _ (k+1) (λx hx=>hf x (.tail _ hx)) k1 (by omega) h
    exact⟨this.1,by simp at this ⊢;omega⟩
theorem HI{base:Int}{R:List PF}{f:Int}(h:f∈jD base R):base<=f/\f<base+4096:=by
 unfold jD at h
 have:=(List.mem_filter.1 h).2
 simpa using this
theorem HH(base:Int)(R:List PF):(jD base R).length<=R.length:=by
 unfold jD
 have:=List.length_filter_le (λf=>decide (base<=f/\f<base+4096)) (R.map PF.id)
 rwa [List.length_map]at this
theorem a7q{d d':DS}{base size:Int}{N:Nat}(hw:sr d.R base N)(hR:d.R.length<=100000){g:g8}(h:kE d base size=(d',.ok g)):g.Ok (N+100000)/\d.off=false:=by
 unfold kE at h
 split at h
 ·cases h
 ·rename_i hb
  split at h
  ·cases h
  ·rename_i ho
   split at h
   ·cases h
   ·rename_i L wh hl
    obtain⟨k1,k2⟩:=Ss (M:=N+100000) hw (by omega) (by omega) (by omega) _ _ [] _ 0 (λf hf=>HI hf) (by simp) (by simp) hl
    have:=HH base d.R
    have hL:(⟨L,base,size,none⟩:g8).Ok (N+100000):=⟨k1,by show 0<=base;omega,by show base<=12288;omega,by show 64<=size;omega,by show size<=65536;omega,by show L.length<=_;omega⟩
    split at h
    ·cases h
    ·cases h;exact⟨hL,by simpa using ho⟩
theorem a7s(dp:Nat)(d:DS)(base size:Int){N B:Nat}(b5:d.Ok B)(hB:B<=140737488355328)(hw:sr d.R base N)(hN:N<=1000000000)(hR:d.R.length<=100000)(iO:d.ops<=100000):
  SP 55 [.pointer (some ⟨dp,0,none⟩),.int .i64 base,.int .i64 size] [.ob (cw dp d)] (Fl dp (kE d base size)):=by
 intro W F w hS;apply b8s;delta MV aF c_ ai eI bI;(try simp only[app]at hS)
 by_cases xf:base<0\/12288<base\/size<64\/65536<size
 ·have e:kE d base size=(d,.error 1):=by unfold kE;rw[if_pos xf]
  rw[e]
  have hE:∀{w:World},SL W (.ob (cw dp d)::F) w->∃post,Fl dp (d,.error 1) (.tuple #[.pointer none,.int .i64 1]) post/\SL W (app post F) w:=λh=>⟨_,⟨by decide,rfl,rfl⟩,h⟩
  refine Gp ?_
  refine za (λh=>hE hS) (λh1=>?_)
  refine Gp ?_
  refine za (λh=>hE hS) (λh2=>?_)
  refine Gp ?_
  refine za (λh=>hE hS) (λh3=>?_)
  refine Gp ?_
  refine za (λh=>hE hS) (λh4=>by omega)
 ·refine Gp ?_
  refine za (λh=>by omega) (λ_=>?_)
  refine Gp ?_
  refine za (λh=>by omega) (λ_=>?_)
  refine Gp ?_
  refine za (λh=>by omega) (λ_=>?_)
  refine Gp ?_
  refine za (λh=>by omega) (λ_=>?_)
  refine Cg (Zd dp d) λw hS=>?_
  refine y3 (λho=>?_) (λho=>?_)
  ·have e:kE d base size=(d,.error 8):=by unfold kE;rw[if_neg xf,if_pos ho]
   rw[e]
   exact⟨_,⟨by decide,rfl,rfl⟩,hS⟩
  ·have eo:kE d base size=match mK d.R (jD base d.R) none [] true with
    | none=>(d,.error 3)
    | some (L,whole)=>if (lr L d (jD base d.R) whole).2≠0 then ((lr L d (jD base d.R) whole).1,.error (lr L d (jD base d.R) whole).2) else ((lr L d (jD base d.R) whole).1,.ok ⟨L,base,size,none⟩):=by
    unfold kE;rw[if_neg xf,if_neg (by rw[ho];decide)];rfl
   rw[eo]
   have hi:∀f∈jD base d.R,base<=f/\f<base+4096:=λf hf=>HI hf
   have b3:=HH base d.R
   refine Gp ?_
   refine⟨_,rfl,zJ hS ?_⟩
   clear hS;intro lp w hS
   have hS:=(Bu (v:=.pointer none)).2 ⟨rfl,hS⟩
   have hS:=f_.r9 (a:=none) (t:=228) (sz:=4) hS
   have hS:=zh.nil (A:=gI) hS
   have hS:=SL.b4 hS (t:=.pt lp (jP (.slice none 0 0) (.pointer none) dp base size) 148::.ob (f_ (.slice none 0 0) 228 4 0 [])::.ob (zh gI [])::.ob (ka (.pointer none) none)::.ob (cw dp d)::F) Xi
   have hS:=(iy.iff (g:=⟨[],base,size,none⟩)).2 ⟨_,_,[],rfl,hS⟩
   refine Cc (Y3 lp dp ⟨[],base,size,none⟩ d (M:=0) (N:=B) (by show 0<=base;omega) (by show base<=12288;omega) b5 hR) ?_;clear hS
   rintro iv post rfl w hS;(try simp only[app]at hS)
   generalize Ca:jD base d.R=ids at *
   refine zt hS (v:=iv) (t:=3) (sz:=1) (n:=ids.length) (cells:=ids.map (Value.int .i64)) Xh ?_
   refine⟨λvs w=>∃(wh:Bool) (i:Nat) (L:List fW),i<=ids.length/\vs=[.bool wh,.int .i64 i]/\mK d.R ids none [] true=mK d.R (ids.drop i) (if i=0 then none else ids[i-1]?) L wh/\(∀s∈L,mO s (N+100000))/\L.length<=i/\(wh=true->0<i->L≠[])/\SL W (.ob (iy lp dp ⟨L,base,size,none⟩)::.ob (cw dp d)::.ob (a_ iv 3 1 ids.length (ids.map (Value.int .i64)))::F) w,
    λvs _=>match vs with|[_,.int _ i]=>(ids.length-i).toNat|_=>0,⟨true,0,[],by omega,rfl,rfl,by simp,by simp,λ_ h=>by omega,aR hS⟩,?_⟩
   clear hS
   rintro v10 v43 w ⟨wh,i,L,G2,jy,o6,PJ,GK,HF,hS⟩
   cases jy
   have GJ:(⟨L,base,size,none⟩:g8).Ok (N+100000):=⟨PJ,by show 0<=base;omega,by show base<=12288;omega,by show 64<=size;omega,by show size<=65536;omega,by show L.length<=_;omega⟩
   refine bW (λh1=>?_) (λh1=>?_)
   ·have hj:i<ids.length:=by omega
    have hu:(ids.map (Value.int .i64))[i]?=some (.int .i64 ids[i]):=by simp[hj]
    have vd:=hi _ (List.getElem_mem hj)
    rw[List.drop_eq_getElem_cons hj,CL]at o6
    refine z8 hS (v:=iv) (t:=3) Xh hj hu ?_
    refine zt hS (v:=iv) (t:=3) (sz:=1) (n:=ids.length) (cells:=ids.map (Value.int .i64)) Xh ?_
    refine Gp ?_
    have ur:decide (((i:Nat):Int)=((ids.length:Nat):Int)-1)=(ids.drop (i+1)).isEmpty:=by
     rw[Bool.eq_iff_iff,decide_eq_true_iff,List.isEmpty_iff,List.drop_eq_nil_iff]
     omega
    rw[ur]
    obtain⟨k1,k2⟩:=HT (L:=L) (f:=ids[i]) (last:=(ids.drop (i+1)).isEmpty) (M:=N+100000) (hw.at_ vd) (by omega) (by omega) (by omega) PJ
    have RA:(l9 L d.R ids[i] (ids.drop (i+1)).isEmpty).1.1=true->(l9 L d.R ids[i] (ids.drop (i+1)).isEmpty).1.2=true->(l9 L d.R ids[i] (ids.drop (i+1)).isEmpty).2≠[]:=by
     unfold l9
     simp only
     split
     ·intro h;cases h
     ·split
      ·intro _ h;cases h
      ·intro _ _;simp
    refine Cg (qL lp dp ⟨L,base,size,none⟩ d ids[i] (ids.drop (i+1)).isEmpty GJ (by omega) b5 hB (hw.at_ vd) (by omega)) λw hS=>?_
    generalize hLG:l9 L d.R ids[i] (ids.drop (i+1)).isEmpty=y at *
    obtain⟨⟨is,ok⟩,L2⟩:=y
    simp only at hS o6 k1 k2 RA ⊢
    cases ok with
    | false=>
     refine zw ?_
     rw[if_pos rfl]at o6
     rw[o6]
     exact⟨_,⟨by decide,rfl,rfl⟩,aR hS⟩
    | true=>
     refine zq ?_
     rw[if_neg (by decide)]at o6
     have ry:∀{w:World},(¬uY (if i=0 then none else ids[i-1]?) ids[i]=true)->SL W (.ob (iy lp dp ⟨L2,base,size,none⟩)::.ob (cw dp d)::.ob (a_ iv 3 1 ids.length (ids.map (Value.int .i64)))::F) w ->
       ∃(wh:Bool) (i':Nat) (L:List fW),i'<=ids.length/\[Value.bool is,Value.int .i64 ((i+1:Nat):Int)]=[.bool wh,.int .i64 i']/\mK d.R ids none [] true=mK d.R (ids.drop i') (if i'=0 then none else ids[i'-1]?) L wh/\(∀s∈L,mO s (N+100000))/\L.length<=i'/\(wh=true->0<i'->L≠[])/\SL W (.ob (iy lp dp ⟨L,base,size,none⟩)::.ob (cw dp d)::.ob (a_ iv 3 1 ids.length (ids.map (Value.int .i64)))::F) w:=by
      intro w hp hS
      refine⟨is,i+1,L2,by omega,rfl,?_,k1,by omega,λh _=>RA h rfl,hS⟩
      rw[if_neg hp]at o6
      rw[o6,if_neg (by omega),Nat.add_sub_cancel,List.getElem?_eq_getElem hj]
     refine bW (λh2=>?_) (λh2=>?_)
     ·have ou:i-1<ids.length:=by omega
      have tz:=hi _ (List.getElem_mem ou)
      refine Gp ?_
      have e:((i:Nat):Int)-1=((i-1:Nat):Int):=by omega
      rw[e]
      have HC:(ids.map (Value.int .i64))[i-1]?=some (.int .i64 (ids[i-1]'ou)):=by simp[ou]
      refine z8 hS (v:=iv) (t:=3) Xh ou HC ?_
      have RI:uY (if i=0 then none else ids[i-1]?) ids[i]=decide (ids[i]≠(ids[i-1]'ou)+1):=by
       rw[if_neg (by omega),List.getElem?_eq_getElem ou];rfl
      refine bW (λh3=>?_) (λh3=>?_)
      ·rw[if_pos (by rw[RI];simpa using h3)]at o6
       rw[o6]
       exact⟨_,⟨by decide,rfl,rfl⟩,aR hS⟩
      ·refine Gp ?_
       exact⟨ry (by rw[RI];simpa using h3) (aR hS),by dsimp only;omega⟩
     ·refine Gp ?_
      have AE:i=0:=by omega
      exact⟨ry (by rw[if_pos AE];simp[uY]) (aR hS),by dsimp only;omega⟩
   ·have mS:i=ids.length:=by omega
    rw[mS,List.drop_length]at o6
    rw[o6]
    simp only[mK]
    have DN:=FG (L:=L) (ids:=ids) (wh:=wh) b5
    refine Cg (YY lp dp ⟨L,base,size,none⟩ d iv ids wh GJ (by omega) b5 (by omega) iO (λh iW=>HF h (by rw[mS];exact List.length_pos_iff.2 iW)) (by omega)) λw hS=>?_
    simp only at hS ⊢
    refine za (λh2=>?_) (λh2=>?_)
    ·rw[if_pos h2]
     exact⟨_,⟨h2,rfl,rfl⟩,aR hS⟩
    ·rw[if_neg h2]
     exact⟨_,⟨lp,rfl,rfl⟩,aR hS⟩
section
variable (lp dp:Nat) (g:g8) {M:Nat} (hg:g.Ok M) (hM:M<=1000000000000)
include hg hM
theorem qK:SP 69 [.pointer (some ⟨lp,0,none⟩)] [.ob (iy lp dp g)] (dW (.int .i64 (b9 g.bR)) [.ob (iy lp dp g)]):=by
 intro W F w hS
 obtain⟨sv,tv,xs,hx,hS⟩:=iy.iff.1 hS
 obtain⟨h1,h2,_,_⟩:=hg.xs hx
 refine yI (yl lp (jP sv tv dp g.base g.size) 148 sv xs rfl h1 (by omega) (by omega)) hS Xp ?_
 rintro v post ⟨rfl,rfl⟩ w hS
 try simp only[app]at hS
 rw[hx]
 exact⟨_,⟨rfl,rfl⟩,iy.iff.2 ⟨sv,tv,xs,hx,aR hS⟩⟩
theorem Q6:SP 70 [.pointer (some ⟨lp,0,none⟩)] [.ob (iy lp dp g)] (dW (.int .i64 (jB g.bR)) [.ob (iy lp dp g)]):=by
 intro W F w hS
 obtain⟨sv,tv,xs,hx,hS⟩:=iy.iff.1 hS
 obtain⟨h1,h2,_,_⟩:=hg.xs hx
 refine yI (Q5 lp (jP sv tv dp g.base g.size) 148 sv xs rfl (by omega)) hS Xp ?_
 rintro v post ⟨rfl,rfl⟩ w hS
 try simp only[app]at hS
 rw[hx]
 exact⟨_,⟨rfl,rfl⟩,iy.iff.2 ⟨sv,tv,xs,hx,aR hS⟩⟩
theorem qZ(n:Int)(hn : -9000000000000000000<=n/\n<=9000000000000000000):SP 71 [.pointer (some ⟨lp,0,none⟩),.int .i64 n] [.ob (iy lp dp g)] (Bq [.ob (iy lp dp g)] (lj g.bR n)):=by
 intro W F w hS
 obtain⟨sv,tv,xs,hx,hS⟩:=iy.iff.1 hS
 obtain⟨h1,h2,_,_⟩:=hg.xs hx
 refine yI (qY lp (jP sv tv dp g.base g.size) 148 sv xs n rfl h1 (by omega) (by omega) hn) hS Xp ?_
 intro r post hQ w hS
 rw[hx]at hQ
 cases hr:lj g.bR n with
 | none=>
  rw[hr]at hQ
  obtain⟨rfl,rfl⟩:=hQ
  try simp only[app]at hS
  exact⟨_,⟨rfl,rfl⟩,iy.iff.2 ⟨sv,tv,xs,hx,aR hS⟩⟩
 | some b=>
  rw[hr]at hQ
  obtain⟨u,rfl,rfl⟩:=hQ
  try simp only[app]at hS
  have hS:=(iy.iff (g:=g)).2 ⟨sv,tv,xs,hx,SL.b4 hS (t:=.pt lp (jP sv tv dp g.base g.size) 148::jI sv xs::.ob (zh gI xs)::.ob (ka tv g.ia)::.ob (a_ u 5 1 b.length (b.map cR))::F) Xi⟩
  exact⟨_,⟨u,rfl,rfl⟩,aR hS⟩
end
abbrev pU(tp dp lp:Nat)(kd image:Int):List Value:=[dF tp,dF dp,dF lp,.int .i64 kd,.int .i64 image]
def ir(sp tp dp lp:Nat)(k:fR):zC:=zQ True [.pt sp (pU tp dp lp k.kd k.image) 58,.ob (iN tp k.ts),.ob (iy lp dp k.g)]
section
variable {W w:World} {l F:List Chunk} {sp tp dp lp:Nat}
theorem ir.iff{k:fR}:SL W (.ob (ir sp tp dp lp k)::l) w↔SL W (.pt sp (pU tp dp lp k.kd k.image) 58::.ob (iN tp k.ts)::.ob (iy lp dp k.g)::l) w:=by
 unfold ir
 simp only[SL.fact,true_and,List.cons_append,List.nil_append]
theorem ir.put(k:fR)(hS:SL W l w)(p:ky [.pt sp (pU tp dp lp k.kd k.image) 58,.ob (iN tp k.ts),.ob (iy lp dp k.g)] l F):SL W (.ob (ir sp tp dp lp k)::F) w:=ir.iff.2 (hS.pick p)
end
theorem ir.oD{W w:World}{l F:List Chunk}{sp tp dp lp:Nat}{g:g8}{d:DS}{ts:kq}{kd image:Int}(hS:SL W l w)(p:ky [.pt sp (pU tp dp lp kd image) 58,.ob (iN tp ts),.ob (iy lp dp g)] l F):SL W (.ob (ir sp tp dp lp ⟨g,d,ts,kd,image⟩)::F) w:=ir.iff.2 (hS.pick p)
structure mY(k:fR)(N:Nat):Prop where
 g:od k.g N
 d:k.d.Ok N
 rows:∀C∈k.ts,oN C
 len:∀C∈k.ts,C.length<=1000
 n1:1<=k.ts.length
 n8:k.ts.length<=8
section
variable (sp tp dp lp:Nat) (k:fR) {N:Nat} (hg:od k.g N) (hN:N<=1000000000)
include hg hN
theorem yp:SP 21 [dF sp] [.ob (ir sp tp dp lp k)] (dW (.int .i64 (b9 k.g.bR)) [.ob (ir sp tp dp lp k)]):=by
 intro W F w hS;apply b5k;delta K3 bF dI;(try simp only[app]at hS)
 have hS:=ir.iff.1 hS
 refine Gp ?_
 refine Cg (qK lp dp k.g hg.ok (by omega)) λw hS=>?_
 exact⟨_,⟨rfl,rfl⟩,SL.b4 (ir.put k hS Xp) Xi⟩
theorem Yw:SP 22 [dF sp] [.ob (ir sp tp dp lp k)] (dW (.int .i64 (jB k.g.bR)) [.ob (ir sp tp dp lp k)]):=by
 intro W F w hS;apply b5o;delta K7 bF dI;(try simp only[app]at hS)
 have hS:=ir.iff.1 hS
 refine Gp ?_
 refine Cg (Q6 lp dp k.g hg.ok (by omega)) λw hS=>?_
 exact⟨_,⟨rfl,rfl⟩,SL.b4 (ir.put k hS Xp) Xi⟩
def uM(sp tp dp lp:Nat)(k:fR)(H:bw)(aI:Int)(r:Value)(post:List Chunk):Prop:=match k.jK aI with
 | .error e=>e≠0/\∃H',H.le H'/\r= .tuple #[agg (iU uI),.int .i64 e]/\post=[.ob (ir sp tp dp lp k),.mem H']
 | .ok t=>∃x H',H.le H'/\r= .tuple #[agg (iU x),.int .i64 0]/\mn H' x t/\post=[.ob (ir sp tp dp lp k),.mem H']
theorem yG(H:bw)(aI:Int)(hl : -9000000000000000000<=aI/\aI<=9000000000000000000):SP 23 [dF sp,.int .i64 aI] [.ob (ir sp tp dp lp k),.mem H] (uM sp tp dp lp k H aI):=by
 intro W F w hS;apply b5z;delta Lh aF bF dI ai bI;(try simp only[app]at hS)
 refine Gb λzb w hS=>?_
 have hS:=ir.iff.1 (SL.b4 hS (t:=.ob (ir sp tp dp lp k)::.pt zb [.int .i64 0,.int .i64 0,.slice none 0 0,.slice none 0 0,.int .i64 0] 39::.mem H::F) Xi)
 refine Gp ?_
 refine Cc (qZ lp dp k.g hg.ok (by omega) aI hl) ?_;clear hS
 rintro r post hq w hS
 unfold Bq at hq
 cases hr:lj k.g.bR aI with
 | none=>
  rw[hr]at hq
  obtain⟨rfl,rfl⟩:=hq
  have he:k.jK aI= .error 5:=by unfold fR.jK;rw[hr]
  try simp only[app]at hS
  have hS:=ir.put k hS Xp
  refine Gp ?_
  refine za (λ_=>?_) (λh=>absurd (by decide) h)
  refine Gn λw hS=>?_
  exact⟨[.ob (ir sp tp dp lp k),.mem H],by unfold uM;rw[he];exact⟨by decide,H,bw.le_refl H,rfl,rfl⟩,aR hS⟩
 | some bs=>
  rw[hr]at hq
  obtain⟨u,rfl,rfl⟩:=hq
  have he:k.jK aI=l6 bs:=by unfold fR.jK;rw[hr]
  try simp only[app]at hS
  have hS:=ir.put k hS Xp
  refine Gp ?_
  refine za (λh=>absurd rfl h) (λ_=>?_)
  refine Cc (qV (.ob (a_ u 5 1 bs.length (bs.map cR))) H u bs ie.own) ?_;clear hS
  rintro r post hq w hS
  unfold sj at hq
  cases hd:l6 bs with
  | error e=>
   rw[hd]at hq
   obtain⟨iW,H',hh,rfl,rfl⟩:=hq
   try simp only[app]at hS
   unfold iU uI
   refine Gn λw hS=>?_
   refine⟨[.ob (ir sp tp dp lp k),.mem H'],?_,aR hS⟩
   unfold uM;rw[he,hd];exact⟨iW,H',hh,rfl,rfl⟩
  | ok t=>
   rw[hd]at hq
   obtain⟨x,H',hh,rfl,hx,rfl⟩:=hq
   try simp only[app]at hS
   have kj:=hx.cv.one
   have nu:=hx.sv.one
   refine Gp ?_
   refine zD (vs:=iU x) hS Xu rfl rfl (sA (aI:=x.aI) (kind:=x.kind) (mark:=x.mark) kj nu) λw hS=>?_
   refine yj hS Xh rfl ?_
   refine⟨[.ob (ir sp tp dp lp k),.mem H'],?_,aR hS⟩
   unfold uM;rw[he,hd];exact⟨x,H',hh,rfl,hx,rfl⟩
end
section
variable (sp tp dp lp:Nat) (k:fR)
theorem qx(t key n:Int)(hn:∀C∈k.ts,C.length<=1000000)(hs:∀C∈k.ts,ke C)(h1 : -1000000<=n)(h2:n<=9000000000000000000):SP 28 [dF sp,.int .i64 t,.int .i64 key,.int .i64 n] [.ob (ir sp tp dp lp k)] (λu post=>post=[jL u (k.s9 t key n),.ob (ir sp tp dp lp k)]):=by
 intro W F w hS;apply b6x;delta LQ bF;(try simp only[app]at hS)
 have hS:=ir.iff.1 hS
 refine Gp ?_
 refine Cc (qz tp k.ts t key n hn hs h1 h2) ?_;clear hS
 rintro u post rfl w hS
 try simp only[app]at hS
 exact⟨_,rfl,SL.b4 (t:=jL u (lK (lk k.ts t) key n)::.ob (ir sp tp dp lp k)::F) (ir.put k hS Xp) Xi⟩
end
theorem ZQ(H:bw)(v:Value)(l:List ig)(n:Int)(hv:gi H 4 v l.length (l.map jA).flatten)(hl:l.length<=140737488351232):SP 62 [v,.int .i64 n] [.mem H] (dW (.bool (decide (∀c∈l,c.table<n))) [.mem H]):=by
 intro W F w hS;apply b8y;delta M1 aF a7 b7 ai cI;(try simp only[app]at hS)
 refine zo hv ?_
 refine⟨λus w=>∃i:Nat,us=[.int .i64 i]/\i<=l.length/\(∀j (h:j<l.length),j<i->l[j].table<n)/\SL W (.mem H::F) w,λus _=>match us with|[.int _ i]=>(l.length-i).toNat|_=>0,⟨0,rfl,by omega,λj h hj=>by omega,hS⟩,?_⟩
 clear hS
 rintro v9 w ⟨i,cW,hi,iz,hS⟩
 cases cW
 refine bW (λh=>?_) (λh=>?_)
 ·have b3:i<l.length:=by omega
  refine zS hS Xh m0 hv (x:=l[i]) (by simp[b3]) b3 ?_
  have hf:¬l[i].table<n->decide (∀c∈l,c.table<n)=false:=λh=>decide_eq_false λh2=>h (h2 _ (List.getElem_mem b3))
  have GP:l[i].table<n->∀j (h:j<l.length),j<i+1->l[j].table<n:=λh j hj k9=>by
   by_cases e:j=i
   ·subst e;exact h
   ·exact iz j hj (by omega)
  clear iz
  generalize l[i]=c at *
  obtain⟨ct,ck,cg,cv⟩:=c
  rw[OI]
  refine Gm λb w hS=>?_
  refine za (λhb=>?_) (λhb=>?_)
  ·rw[hf (by show ¬ct<n;omega)]
   (exact eF hS)
  ·refine Gp ?_
   refine⟨⟨i+1,rfl,by omega,GP (by show ct<n;omega),aR hS⟩,by dsimp only;omega⟩
 ·rw[show decide (∀c∈l,c.table<n)=true from decide_eq_true λc hc=>by
   obtain⟨j,hj,rfl⟩:=List.getElem_of_mem hc
   exact iz j hj (by omega)]
  (exact eF hS)
theorem HU{t:dR}(h:iM t=true){n:Int}(h1:1<=n)(h2:n<=1099511627776):iM {t with aI:=n}=true:=by
 obtain⟨_,h3⟩:=uC.1 h
 exact uC.2 ⟨⟨h1,h2⟩,h3⟩
abbrev xY(sp tp dp lp:Nat)(H:bw)(y:fR × (Int × Int)):Value->List Chunk->Prop:=dW (.tuple #[.int .i64 y.2.1,.int .i64 y.2.2]) [.ob (ir sp tp dp lp y.1),.ob (cw dp y.1.d),.mem H]
theorem Yt(sp tp dp lp:Nat)(k:fR)(H:bw)(x:oP)(t:dR)(hx:mn H x t)(hm:iM t=true){N:Nat}(hk:mY k N)(hN:N<=1000000000)(iO:k.d.ops<=90000):
  SP 63 [dF sp,agg (iU x)] [.ob (ir sp tp dp lp k),.ob (cw dp k.d),.mem H] (xY sp tp dp lp H (k.lJ t)):=by
 intro W F w hS;apply b8z;delta M3 aF bF a7 c_ ai;(try simp only[app]at hS)
 have hg:=hk.g
 obtain⟨Hv,AP,Hw,Hx,Hy,Cz,Hz⟩:=nW hm
 have GX:=u_ hg.ok.bR
 have hn6:∀C∈k.ts,C.length<=1000000:=λC hC=>by have:=hk.len C hC;omega
 have kP:∀C∈k.ts,ke C:=λC hC=>(hk.rows C hC).sorted
 have h8:=hk.n8
 refine zK hS λxb w hS=>?_
 unfold iU at hS
 rw[hx.aI,hx.kind,hx.mark]at hS
 have hS:=ir.iff.1 (SL.b4 hS (t:=.ob (ir sp tp dp lp k)::oe xb x t::.ob (cw dp k.d)::.mem H::F) Xi)
 refine Gp ?_
 refine Cg (Zd dp k.d) λw hS=>?_
 cases ho:k.d.off with
 | true=>
  refine zw ?_
  rw[show k.lJ t=(k,(0,8)) by unfold fR.lJ;rw[if_pos ho]]
  exact⟨_,⟨rfl,rfl⟩,SL.b4 (ir.put k hS Xp) Xi⟩
 | false=>
  refine zq ?_
  refine Gn λw hS=>?_
  refine Cg (Qv tp k.ts H x.cv t.changes hx.cv (by omega) kP hn6 (by omega) (by omega)) λw hS=>?_
  refine zA (λhf=>?_) (λhf=>?_)
  ·rw[show k.lJ t=(k,(0,7)) by unfold fR.lJ;rw[if_neg (by simp[ho]),if_pos (.inl hf)]]
   exact⟨_,⟨rfl,rfl⟩,SL.b4 (ir.put k hS Xp) Xi⟩
  have hS:=ir.put k hS Xp
  refine Cg (yp sp tp dp lp k hg hN) λw hS=>?_
  refine za (λhh=>?_) (λhh=>?_)
  ·rw[show k.lJ t=(k,(0,7)) by unfold fR.lJ;rw[if_neg (by simp[ho]),if_pos (.inr hh)]]
   exact eF hS
  refine Cg (yp sp tp dp lp k hg hN) λw hS=>?_
  have uu:=HU hm (n:=b9 k.g.bR+1) (by omega) (by omega)
  have mJ:mn H ⟨b9 k.g.bR+1,t.kind,x.cv,x.sv,t.mark⟩ {t with aI:=b9 k.g.bR+1}:=⟨rfl,rfl,rfl,hx.cv,hx.sv⟩
  have BY:k.lJ t=(let r:=j6 k.g k.d (l4 {t with aI:=b9 k.g.bR+1});if r.2.2=0 then ({k with g:=r.1.1,d:=r.1.2,ts:=jz k.ts t.changes},(b9 k.g.bR+1,0)) else ({k with g:=r.1.1,d:=r.1.2},(0,r.2.2))):=by
   unfold fR.lJ
   rw[if_neg (by simp[ho]),if_neg (by rw[hf];simp;omega)]
  have u0:=Dn uu
  have DN:=N6 uu
  rw[BY]
  clear BY
  generalize hq:({t with aI:=b9 k.g.bR+1}:dR)=t2 at *
  have v_:1<=b9 k.g.bR+1:=by omega
  generalize b9 k.g.bR+1=aI at *
  refine Cc (qW H ⟨aI,t.kind,x.cv,x.sv,t.mark⟩ t2 mJ) ?_;clear hS
  rintro r post hq w hS
  unfold vC at hq
  rw[DN]at hq
  obtain⟨bv,rfl,rfl⟩:=hq
  try simp only[app]at hS
  have hS:=ir.iff.1 (SL.b4 hS (t:=.ob (ir sp tp dp lp k)::.ob (a_ bv 5 1 (pG t2).length ((pG t2).map cR))::.ob (cw dp k.d)::.pt xb [.int .i64 aI,.int .i64 t.kind,x.cv,x.sv,.int .i64 t.mark] 39::.mem H::F) Xi)
  refine Gp ?_
  refine⟨λus w=>us=[.int .i64 (j6 k.g k.d (l4 t2)).2.2]/\SL W (.ob (iy lp dp (j6 k.g k.d (l4 t2)).1.1)::.ob (cw dp (j6 k.g k.d (l4 t2)).1.2)::.pt sp (pU tp dp lp k.kd k.image) 58::.ob (iN tp k.ts)::.pt xb [.int .i64 aI,.int .i64 t.kind,x.cv,x.sv,.int .i64 t.mark] 39::.mem H::F) w,?_,?_⟩
  ·refine Gp ?_
   refine za (λ_=>?_) (λh=>absurd rfl h)
   refine Gp ?_
   refine Cg (Yz (.ob (a_ bv 5 1 (pG t2).length ((pG t2).map cR))) lp dp k.g k.d bv (pG t2) ie.own (by omega) hg.ok (by omega) hk.d (by omega) iO) λw hS=>?_
   exact aR hS
  clear hS
  rintro v7 w ⟨cW,hS⟩
  cases cW
  generalize j6 k.g k.d (l4 t2)=r at *
  obtain⟨⟨g',d'⟩,n',e'⟩:=r
  simp only at hS ⊢
  refine bW (λhe=>?_) (λhe=>?_)
  ·rw[if_neg he]
   exact⟨_,⟨rfl,rfl⟩,SL.b4 (ir.oD (d:=d') hS Xp) Xi⟩
  ·have he:e'=0:=by omega
   rw[if_pos he]
   refine Gn λw hS=>?_
   refine Cg (ZK tp k.ts H x.cv t.changes hx.cv (by omega) kP 1000 hk.len (by omega)) λw hS=>?_
   have iz:t.changes.all (ki k.ts.length)=true:=by
    unfold oU at hf
    rw[Bool.and_eq_true]at hf
    exact hf.1
   rw[if_pos iz]at hS
   exact⟨_,⟨rfl,rfl⟩,SL.b4 (ir.oD (d:=d') hS Xp) Xi⟩
theorem yT(sp tp dp lp:Nat)(k:fR)(H:bw)(sv cv:Value)(sg:List ByteArray)(l:List ig)(hs:gi H 1 sv sg.length (sg.map Value.string))(hc:gi H 4 cv l.length (l.map jA).flatten)(hl:l.length<=140737488351232){N:Nat}(hk:mY k N)(hN:N<=1000000000)(iO:k.d.ops<=90000):
  SP 18 [dF sp,sv,cv] [.ob (ir sp tp dp lp k),.ob (cw dp k.d),.mem H] (xY sp tp dp lp H (k.mR sg l)):=by
 intro W F w hS;apply b4v;delta KD bF c_ ai bI;(try simp only[app]at hS)
 have tE:=hs.one
 have kj:=hc.one
 have hx:mn H ⟨1,1,cv,sv,0⟩ ⟨1,1,l,sg,0⟩:=⟨rfl,rfl,rfl,hc,hs⟩
 have e0:lx [.int .i64 0,.int .i64 0,.slice none 0 0,.slice none 0 0,.int .i64 0] [(0,1,.int .i64 1),(1,1,.int .i64 1),(2,1,cv),(3,1,sv)]=some (iU ⟨1,1,cv,sv,0⟩):=by
  simp[lx,show ∀n,(Value.int .i64 n).cells = #[.int .i64 n] from λ_=>rfl,vq tE,vq kj,iU]
 refine yx e0 ?_
 refine Gb λxb w hS=>?_
 refine zD hS Xu rfl rfl (sA kj tE) λw hS=>?_
 refine yj hS Xh rfl ?_
 refine Cg (yu H ⟨1,1,cv,sv,0⟩ ⟨1,1,l,sg,0⟩ hx) λw hS=>?_
 refine zA (λhm=>?_) (λhm=>?_)
 ·rw[show k.mR sg l=(k,(0,1)) by unfold fR.mR;rw[if_neg (by rw[hm];simp)]]
  exact eF hS
 have hS:=ir.iff.1 (SL.b4 hS (t:=.ob (ir sp tp dp lp k)::.pt xb (iU ⟨1,1,cv,sv,0⟩) 39::.ob (cw dp k.d)::.mem H::F) Xi)
 refine Gp ?_
 refine Cg (yU tp k.ts) λw hS=>?_
 refine Cg (ZQ H cv l k.ts.length hc hl) λw hS=>?_
 have hS:=ir.put k hS Xp
 refine zA (λhb=>?_) (λhb=>?_)
 ·have hb:=of_decide_eq_false hb
  rw[show k.mR sg l=(k,(0,1)) by unfold fR.mR;rw[if_neg λh=>hb h.2]]
  exact eF hS
 have hb:=of_decide_eq_true hb
 rw[show k.mR sg l=k.lJ ⟨1,1,l,sg,0⟩ by unfold fR.mR;rw[if_pos ⟨hm,hb⟩]]
 refine yj hS Xh rfl ?_
 refine Cg (Yt sp tp dp lp k H ⟨1,1,cv,sv,0⟩ ⟨1,1,l,sg,0⟩ hx hm hk hN iO) λw hS=>?_
 exact eF hS
def lH(n:Int)(l:List dR)(k:Int):List (List Row):=if n<1\/8<n then [] else (List.range n.toNat).map λt:Nat=>mA t (l.take (ail k l.length))
theorem Pc(l:List dR)(tb:Int)(i:Nat):(mA tb (l.take i)).length<=(l.flatMap (·.changes)).length:=by
 have h2:=aRy (l:=(l.take i).flatMap (·.changes)) [] tb
 have e:(l.flatMap (·.changes)).length=((l.take i).flatMap (·.changes)).length+((l.drop i).flatMap (·.changes)).length:=by
  have:l=l.take i++l.drop i:=by simp
  conv=>lhs;rw[this]
  simp only[List.flatMap_append,List.length_append]
 unfold mA
 simp only[List.length_nil]at h2
 omega
theorem S9{base size:Int}(b0:0<=base)(b1:base<=12288)(s0:64<=size)(s1:size<=65536):kE mg base size=(mg,.ok ⟨[],base,size,none⟩):=
 a7w (L:=[]) (f:=base) (n:=1) trivial rfl rfl b0 b1 s0 s1 (Int.le_refl _) (by simp;omega) (by decide) (by simp[iK])
theorem aR0{base size:Int}(b0:0<=base)(b1:base<=12288)(s0:64<=size)(s1:size<=65536):sW ⟨[],base,size,none⟩ mg base 1 []:=
 ⟨trivial,rfl,rfl,λ_=>⟨rfl,rfl⟩,Int.le_refl _,b0,b1,s0,s1,by decide,by show base+((0:Nat):Int)+2<=base+4096;omega,rfl,rfl⟩
theorem a7i{base size:Int}(b0:0<=base)(b1:base<=12288)(s0:64<=size)(s1:size<=65536):(⟨[],base,size,none⟩:g8).Ok 0:=⟨by simp,b0,b1,s0,s1,Nat.le_refl _⟩
structure nm(n:Nat)(all:List dR):Prop where
 ok:Dd n all
 len:all.length<=1000
 kM:(all.flatMap (·.changes)).length<=1000
theorem nm.nil(n:Nat):nm n []:=⟨⟨by simp,λi h=>by simp at h,by simp⟩,by decide,by decide⟩
theorem nm.take{n:Nat}{all:List dR}(h:nm n all)(j:Nat):nm n (all.take j):=by
 refine⟨⟨λt ht=>h.ok.may t (List.mem_of_mem_take ht),λi hi=>?_,λt ht=>h.ok.ch t (List.mem_of_mem_take ht)⟩,by rw[List.length_take];have:=h.len;omega,?_⟩
 ·rw[List.getElem_take];exact h.ok.aI i _
 ·have e:(all.flatMap (·.changes)).length=((all.take j).flatMap (·.changes)).length+((all.drop j).flatMap (·.changes)).length:=by
   conv=>lhs;rw[<- List.take_append_drop j all]
   rw[List.flatMap_append,List.length_append]
  have:=h.kM
  omega
theorem nm.row{n:Nat}{all:List dR}(h:nm n all):∀C∈kZ n all,C.length<=1000:=λC hC=>by
 unfold kZ at hC
 obtain⟨t,_,rfl⟩:=List.mem_map.1 hC
 have:=Pc all (t:Int) all.length
 rw[List.take_length]at this
 have:=h.kM
 omega
theorem nm.rows{n:Nat}{all:List dR}(h:nm n all):∀C∈kZ n all,oN C:=bWa h.ok.may h.ok.ch
theorem nm.aIr{n:Nat}{all:List dR}(h:nm n all)(n1:1<=n)(n8:n<=8):Jp n all:=λj hj=>by
 have ht:=h.take j
 have hl:=h.len
 refine tL.2 ⟨⟨by omega,by omega,by rw[uG];exact n1,by rw[uG];exact n8⟩,λC hC=>⟨(ht.rows C hC).sorted,(ht.rows C hC).rows,ht.row C hC⟩⟩
theorem nm.fits{n:Nat}{all:List dR}{t:dR}(h:nm n (all++[t])):oU (kZ n all) t.changes=true:=by
 have hc:=h.ok.ch t (by simp)
 have hr:=h.row
 rw[<- E4 hc]at hr
 unfold oU
 rw[Bool.and_eq_true,List.all_eq_true,List.all_eq_true]
 exact⟨λc kH=>by rw[uG];exact hc c kH,λC hC=>decide_eq_true (hr C hC)⟩
theorem nm.app{n:Nat}{all:List dR}(h:nm n all){t:dR}(hm:iM t=true)(hl:t.aI=(all.length:Int)+1)(hc:∀c∈t.changes,ki n c=true)(h1:all.length+1<=1000)(h2:(all.flatMap (·.changes)).length+t.changes.length<=1000):nm n (all++[t]):=by
 refine⟨⟨λx hx=>?_,λi hi=>?_,λx hx=>?_⟩,by rw[List.length_append];exact h1,by rw[List.flatMap_append,List.length_append];simpa using h2⟩
 ·rcases List.mem_append.1 hx with hx|hx
  ·exact h.ok.may x hx
  ·rw[List.mem_singleton.1 hx];exact hm
 ·rw[List.getElem_append]
  split
  ·exact h.ok.aI i _
  ·rename_i hn
   rw[List.length_append,List.length_singleton]at hi
   simp only[List.getElem_singleton]
   rw[hl];omega
 ·rcases List.mem_append.1 hx with hx|hx
  ·exact h.ok.ch x hx
  ·rw[List.mem_singleton.1 hx];exact hc
theorem mY.mono{k:fR}{N M:Nat}(h:mY k N)(hm:N<=M):mY k M:=⟨h.g.mono hm,h.d.mono hm,h.rows,h.len,h.n1,h.n8⟩
theorem mY.add{k:fR}{N:Nat}(h:mY k N){t:dR}(hm:iM t=true):mY (k.lJ t).1 (N+2000):=by
 unfold fR.lJ
 split
 ·exact h.mono (by omega)
 ·split
  ·exact h.mono (by omega)
  ·rename_i ho hf
   have B_:=u_ h.g.ok.bR
   have uu:=HU hm (n:=b9 k.g.bR+1) (by omega) (by omega)
   have hl:=Dn uu
   have hb:(l4 {t with aI:=b9 k.g.bR+1}).length<=1200:=hl
   have hg:=Vn (d:=k.d) h.g (l4 {t with aI:=b9 k.g.bR+1})
   have hd:=Vp (g:=k.g) h.d (l4 {t with aI:=b9 k.g.bR+1})
   generalize l4 {t with aI:=b9 k.g.bR+1}=p at *
   have rX:oU k.ts t.changes=true:=by
    cases hq:oU k.ts t.changes with
    | true=>rfl
    | false=>exact absurd (Or.inl hq) hf
   simp only
   split
   ·unfold oU at rX
    rw[Bool.and_eq_true,List.all_eq_true,List.all_eq_true]at rX
    refine⟨hg.mono (by omega),hd.mono (by omega),FC (k:=8) h.rows (nW hm).2.2.2.2.2.1 rX.1,λC hC=>of_decide_eq_true (rX.2 C hC),?_,?_⟩
    ·show 1<=(jz k.ts t.changes).length
     rw[tW];exact h.n1
    ·show (jz k.ts t.changes).length<=8
     rw[tW];exact h.n8
   ·exact⟨hg.mono (by omega),hd.mono (by omega),h.rows,h.len,h.n1,h.n8⟩
theorem mY.ta{k:fR}{N:Nat}(h:mY k N)(sg:List ByteArray)(l:List ig):mY (k.mR sg l).1 (N+2000):=by
 unfold fR.mR
 split
 ·rename_i hc;exact h.add hc.1
 ·exact h.mono (by omega)
def o9(n:Nat)(size:Int):fR:=⟨⟨[],16,size,none⟩,mg,List.replicate n [],-1,0⟩
theorem T4{n:Nat}(n1:1<=n)(n8:n<=8){size:Int}(s0:64<=size)(s1:size<=65536):r_ mg n size=(mg,.ok (o9 n size))/\wK n (o9 n size) [] 0 [] mg 16 0 0:=by
 have sF:vD n [] [] (-1) 0:=⟨.nil,by simp,by simp,λ_=>rfl,.inl rfl,Nat.le_refl _,λh=>absurd rfl h,by simp⟩
 have hw:jJ 16 4112 [] [] mg.R:=⟨by simp,by simp[mg],by simp⟩
 have:=a7u n1 n8 (nm.nil n).ok ((nm.nil n).aIr n1 n8) (I:=[]) (tr:=0) (S9 (base:=16) (by decide) (by decide) s0 s1) hw (aR0 (by decide) (by decide) s0 s1) rfl sF (Nat.le_refl _) (Nat.le_refl _) (by decide)
 rw[I5]at this
 exact this
theorem T3{n:Nat}(n1:1<=n)(n8:n<=8){size:Int}(s0:64<=size)(s1:size<=65536):mY (o9 n size) 0:=
 ⟨⟨a7i (by decide) (by decide) s0 s1,trivial,show (0:Int)<=1099511627776 by decide,λx hx=>by cases hx⟩,IJ 0,λC hC=>by rw[(List.mem_replicate.1 hC).2];exact TE,λC hC=>by rw[(List.mem_replicate.1 hC).2];exact Nat.zero_le _,by show 1<=(List.replicate n []).length;rw[List.length_replicate];exact n1,by show (List.replicate n []).length<=8;rw[List.length_replicate];exact n8⟩
theorem wK.read{n:Nat}{k:fR}{all:List dR}{tr:Nat}{I:List PF}{d0:DS}{f:Int}{lo m:Nat}(h:wK n k all tr I d0 f lo m)(ho:∀t∈all,iM t=true){j:Nat}(h1:lo<=j)(h2:j<all.length):k.jK ((j:Int)+1)= .ok all[j]:=by
 unfold fR.jK
 rw[h.log.chain.read,if_pos (by omega),h.log.nT]
 have e:(((j:Int)+1-((lo:Int)+1)).toNat)=j-lo:=by omega
 have e2:((all.drop lo).map l4)[j-lo]?=some (l4 all[j]):=by
  rw[List.getElem?_map,List.getElem?_drop,show lo+(j-lo)=j by omega,List.getElem?_eq_getElem h2];rfl
 rw[e,e2]
 exact N5 (ho _ (List.getElem_mem h2))
end Go.Proofs.YtfenmffiidchcaaGreat
