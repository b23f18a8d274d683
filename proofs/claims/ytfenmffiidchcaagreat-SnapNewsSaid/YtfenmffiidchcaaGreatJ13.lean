/-
  Texts of the proof, joined: Own, OpT, CellsN, TxT, TxL, PlaySig, TxnsS, BytesT, Law12K, Law28, SameI, Law28D, Law28E, Law28K, Law28P, Law28A, Law28N, Law28T.
-/
import Derived.Test.YtfenmffiidchcaaGreatJ12
import Derived.Test.YtfenmffiidchcaaGreatRows
namespace Go.Proofs.YtfenmffiidchcaaGreat
set_option linter.unusedVariables false
theorem Tryz.own:ownKnob Tryz.prog.godebug=none:=by kernel_rfl
theorem Tryz.laidOut:laidOutB Tryz.prog=true:=by kernel_rfl
end Go.Proofs.YtfenmffiidchcaaGreat
namespace Go.Proofs.YtfenmffiidchcaaGreat
set_option linter.unusedVariables false
set_option maxRecDepth 100000
open Go.ChangeShapes Go.WideShapes Go.ChangeAt Go.RowKit
theorem RdS.cellsN{α:Type}{T:GoT α}{w:World}{xs:List α}{v:Value}(h:RdS T w Nob xs v)(hT:0<T.n):
  ∃css:List (List Value),css.length=xs.length∧RdSl (Heap.of w) T.n v xs.length css.flatten∧∀i (h:i<xs.length) (h':i<css.length),T.rd w Nob xs[i] css[i]:=by
 obtain⟨a,cap,rfl,hc,hx⟩:=h.out
 have hex:∀i,∃cs:List Value,cs.length=T.n∧∀h:i<xs.length,T.rd w Nob xs[i] cs∧∃b off,a=some ⟨b,off,none⟩∧At w Nob b (off+i*T.n) cs:=λi=>by
  by_cases hi:i<xs.length
  ·obtain⟨b,off,cs,ha,hr,hat⟩:=hx i hi
   exact⟨cs,T.len hr,λ_=>⟨hr,b,off,ha,hat⟩⟩
  ·exact⟨List.replicate T.n undef,by simp,λh=>absurd h hi⟩
 obtain⟨f,hf⟩:=Classical.axiomOfChoice hex
 have hlen:∀x∈(List.range xs.length).map f,x.length=T.n:=λx hx=>by
  obtain⟨i,_,rfl⟩:=List.mem_map.1 hx;exact (hf i).1
 have hfl:((List.range xs.length).map f).flatten.length=xs.length*T.n:=by rw[flatten_length (n:=T.n) _ hlen];simp
 refine⟨(List.range xs.length).map f,by simp,⟨hfl,a,cap,rfl,hc,?_⟩,λi hi hi'=>?_⟩
 ·rcases Nat.eq_zero_or_pos xs.length with h0|h0
  ·exact .inl h0
  ·right
   obtain⟨_,b,off,rfl,_⟩:=(hf 0).2 h0
   refine⟨b,off,rfl,λj u hu=>?_⟩
   have hj:=(List.getElem?_eq_some_iff.1 hu).1
   rw[hfl]at hj
   have hi:j / T.n<xs.length:=(Nat.div_lt_iff_lt_mul hT).2 hj
   obtain⟨_,b',off',hab,hat⟩:=(hf (j / T.n)).2 hi
   simp at hab
   obtain⟨rfl,rfl⟩:=hab
   have hmod:j % T.n<(f (j / T.n)).length:=by rw[(hf _).1];exact Nat.mod_lt _ hT
   have hg:=flatten_get (n:=T.n) ((List.range xs.length).map f) hlen (j / T.n) (j % T.n) (by simpa using hi) ((f (j / T.n))[j % T.n]'hmod) (by simp[List.getElem?_eq_getElem hmod])
   have hdm:j / T.n*T.n+j % T.n=j:=by rw[Nat.mul_comm];exact Nat.div_add_mod j T.n
   rw[hdm,hu]at hg
   have hu':u=(f (j / T.n))[j % T.n]:=Option.some.inj hg
   have:=hat.2 (j % T.n) u (by rw[hu'];exact List.getElem?_eq_getElem hmod)
   rw[show off+j / T.n*T.n+j % T.n=off+j by omega]at this
   unfold World.cell? at this
   unfold Heap.cell Heap.of
   simp only at this ⊢
   split at this
   ·rename_i c t f he';rw[he'];simpa using this
   ·cases this
 ·simpa using ((hf i).2 hi).1
def tChg:GoT Chg:=(tPair (tInt .i64) (tPair (tInt .i64) (tPair tBool (tPair tStr tUnit)))).via λo=>(o.table,o.key,o.gone,o.val,())
theorem tChg_rd{w:World}{M:MS}{o:Chg}{cs:List Value}(h:tChg.rd w M o cs):cs=encChg o:=by
 obtain⟨c1,c2,rfl,h1,c3,c4,rfl,h3,c5,c6,rfl,h5,c7,c8,rfl,h7,h8⟩:=h
 have h1':c1=[.int .i64 o.table]:=h1
 have h3':c3=[.int .i64 o.key]:=h3
 have h5':c5=[.bool o.gone]:=h5
 have h7':c7=[.string o.val]:=h7
 have h8':c8=[]:=h8
 subst h1' h3' h5' h7' h8'
 rfl
def okChgA(c:Chg):Prop:=inK .i64 c.key
theorem chgOpens:Opens Tryz.prog 82 tChg okChgA:=
 opens_ok (QS (λo:Chg=>(o.table,o.key,o.gone,o.val,())) (λx=>⟨x.1,x.2.1,x.2.2.1,x.2.2.2.1⟩) (λ_=>rfl)
  (Yw Tryz.underlying82 (by kernel_rfl) (fields_cons (opens_int Tryz.underlying3 (by kernel_rfl)) rfl (fields_cons (opens_int Tryz.underlying2 (by kernel_rfl)) rfl (fields_cons (qC Tryz.underlying4 (by kernel_rfl)) rfl (fields_cons (QR Tryz.underlying9 (by kernel_rfl)) rfl (fields_nil _ _))))))) (λo h=>h.2.1)
end Go.Proofs.YtfenmffiidchcaaGreat
namespace Go.Proofs.YtfenmffiidchcaaGreat
set_option linter.unusedVariables false
set_option maxRecDepth 100000
open Go.RowKit
end Go.Proofs.YtfenmffiidchcaaGreat
namespace Go.Proofs.YtfenmffiidchcaaGreat
set_option linter.unusedVariables false
open Go.ChangeShapes Go.WideShapes Go.ChangeAt Go.RowKit
end Go.Proofs.YtfenmffiidchcaaGreat
namespace Go.Proofs.YtfenmffiidchcaaGreat
set_option linter.unusedVariables false
set_option maxRecDepth 100000
open Go.RowKit
theorem PSnap.Good.okS{p:PSnap}{N:Nat}(h:p.Good N)(hN:N≤900000000):p.Ok:=
 ⟨⟨h.reqs,h.t1,by have:=h.rows;omega,h.at0⟩,h.d,h.d.len,⟨N,h.src,hN⟩,h.n,h.row.1,by have:=h.wid;omega⟩
theorem RDO.new28{W w:World}{l:List Chunk}{H:Heap}{xp:Nat}(hS:SL W (.pt xp [.slice none 0 0,.int .i64 0,.bool false,.int .i64 0] 66::l) w):SL W (.ob (RDO H xp s00)::l) w:=by
 have hS:SL W (.ob (OwnSl (.slice none 0 0) 186 3 0 [])::.pt xp [.slice none 0 0,.int .i64 0,.bool false,.int .i64 0] 66::l) w:=OwnSl.nil hS
 exact (RDO.iff (H:=H) (s:=s00)).2 ⟨Value.slice none 0 0,[],⟨rfl,λy hy=>by cases hy⟩,SL.into hS (t:=.pt xp [.slice none 0 0,.int .i64 0,.bool false,.int .i64 0] 66::.ob (OwnSl (.slice none 0 0) 186 3 0 [])::l) Xi⟩
structure SPs where
 xb:Nat
 sp:Nat
 tp:Nat
 dp:Nat
 lp:Nat
 mp:Nat
 wp:Nat
 pp:Nat
 gp:Nat
 kp:Nat
 xp:Nat
 rlp:Nat
 rp:Nat
 ym:Nat
 yw:Nat
 zp:Nat
 zg:Nat
abbrev d28cells(x:SPs):List Value:=[ptrA x.dp,ptrA x.sp,ptrA x.mp,ptrA x.pp,ptrA x.xp,ptrA x.kp,ptrA x.ym,ptrA x.zp]
abbrev D28(x:SPs):Chunk:=.pt x.xb (d28cells x) 95
abbrev M28(x:SPs)(H1 H2 H3:Heap)(p q:PSnap):List Chunk:=[D28 x,.pt x.pp (spcells x.sp x.mp x.wp x.gp p.n) 201,.ob (DrrO x.gp p.d),.ob (MuxO x.mp x.wp H1 p.m),.ob (SrcO x.sp x.tp x.dp x.lp p.k),.ob (DskO x.dp p.k.d),.pt x.zp (rspcells x.kp x.ym x.zg q.n) 286,.ob (RDrrO x.zg H2 q.d),.ob (RMuxO x.ym x.yw H2 q.m),.ob (RSrcO x.kp x.xp x.rlp x.rp H2 q.k),.ob (RDO H2 x.xp q.k.d),.mem H3]
abbrev L28(x:SPs)(H:Heap)(p:PSnap):List Chunk:=M28 x H H H p p
def q00(n:Nat)(c:PCfg):PSnap:=⟨k00 n c.size,⟨n,c.late,0,[],win0 c.chunk⟩,drr0,c.chunk⟩
structure Cfg28(n:Nat)(c:PCfg):Prop where
 tables:c.tables=n
 n1:1≤n
 n8:n≤8
 s0:64≤c.size
 s1:c.size≤65536
 late0:0≤c.late
 late1:c.late<2 ^ n
 c1:1≤c.chunk
 c64:c.chunk≤64
theorem mayP_nil:MayP []:=⟨by decide,λi h=>by simp at h⟩
theorem Cfg28.mux{n:Nat}{c:PCfg}(h:Cfg28 n c):¬muxBad n c.late c.chunk 0 []:=by
 obtain⟨h1,h2,h3,h4,h5,h6,h7,h8,h9⟩:=h
 unfold muxBad
 rw[show ((n:Nat):Int).toNat=n from Int.toNat_natCast n]
 rintro (h|h|h|h|h|h|h|h|h|⟨r,hr,_⟩)
 ·omega
 ·omega
 ·omega
 ·omega
 ·omega
 ·omega
 ·omega
 ·omega
 ·exact h mayP_nil
 ·cases hr
theorem q00_good{n:Nat}{c:PCfg}(h:Cfg28 n c):(q00 n c).Good 0:=
 ⟨mayP_nil,⟨by have:=h.n1;show (1:Int)≤(n:Int);omega,by have:=h.n8;show (n:Int)≤8;omega⟩,by show (0:Int)≤0∧(0:Int)≤1099511627776;decide,h.c64,by show 0≤64;decide,by show (0:Int)≤0∧(0:Int)≤64;decide,drr0_ok,(λm hm=>by cases hm),⟨h.c1,h.c64⟩,sok00 h.n1 h.n8 h.s0 h.s1⟩
theorem Ze(H:Heap)(c:PCfg)(n:Nat)(hc:Cfg28 n c):
  SP 40 [agg (encCfg c)] [.mem H] (λv post=>∃(x:SPs) (H':Heap),H.le H'∧v=ptrA x.xb∧post=L28 x H' (q00 n c)):=by
 obtain⟨e1,_⟩:=sopen00 hc.n1 hc.n8 hc.s0 hc.s1
 have hmb:=hc.mux
 have hng:∀d' g,openG s00 16 c.size=(d',.ok g)→(entsG g.segs).length≤50000:=λd' g h=>by rw[open00 (by decide) (by decide) hc.s0 hc.s1]at h;cases h;exact Nat.zero_le _
 obtain⟨ct,cl,cs,cq,cc,cba,cb0,cm,cj,ce⟩:=c
 obtain⟨c1,c2,c3,c4,c5,c6,c7,c8,c9⟩:=hc
 simp only at c1 c4 c5 c6 c7 c8 c9 e1 hng hmb
 subst c1
 intro W F w hS;apply vc40;unfold Vc40;(try simp only[app]at hS)
 refine zJ hS λcb w hS=>?_
 unfold encCfg at hS
 (refine Cc (QQ) ?_;clear hS)
 rintro _ post ⟨dp,rfl,rfl⟩ w hS
 (try simp only[app]at hS);refine Gp ?_
 refine zJ hS λxp w hS=>?_
 have hS:=RDO.new28 (H:=H) hS
 refine Gp ?_
 refine zJ hS λxb w hS=>?_
 have hS:SL W (.pt xb [ptrA dp,.pointer none,.pointer none,.pointer none,ptrA xp,.pointer none,.pointer none,.pointer none] 95::_) w:=hS
 refine Gp ?_
 refine zt ?_
 refine Gn λw hS=>?_
 (refine Cc (q5 H dp s00 n cs (s00_ok 0) (by decide) (by decide) hng) ?_;clear hS)
 rintro r post hq w hS
 rw[e1]at hq
 obtain⟨sp,tp,lp,H1,h01,rfl,rfl⟩:=hq
 refine Gn λw hS=>?_
 (refine Cc (QP H1 n cl cc 0 (.slice none 0 0) [] (RdSl.nil _ _) (by decide)) ?_;clear hS)
 rintro r post hq w hS
 rcases hq with ⟨hq,_⟩|⟨_,mp,wp,H2,h12,rfl,rfl⟩
 ·exact absurd hq hmb
 refine Gn λw hS=>?_
 refine zt ?_
 refine Gp ?_
 refine zt ?_
 refine Gn λw hS=>?_
 (refine Cc (ZZ sp mp wp H2 ⟨n,cl,0,[],win0 cc⟩ cc) ?_;clear hS)
 rintro r post hq w hS
 rcases hq with ⟨hq,_⟩|⟨_,pp,gp,rfl,rfl⟩
 ·exact absurd ⟨c8,c9⟩ hq
 refine Gn λw hS=>?_
 refine zt ?_
 obtain⟨rv,hr,hS⟩:=MuxO.iff.1 (SL.into hS (t:=.ob (MuxO mp wp H2 ⟨n,cl,0,[],win0 cc⟩)::.pt pp (spcells sp mp wp gp cc) 201::.ob (DrrO gp drr0)::.ob (SrcO sp tp dp lp (k00 n cs))::.ob (DskO dp s00)::.ob (RDO H xp s00)::.pt xb [ptrA dp,ptrA sp,ptrA mp,ptrA pp,ptrA xp,.pointer none,.pointer none,.pointer none] 95::.pt cb [.int .i64 n,.int .i64 cl,.int .i64 cs,.int .i64 cq,.int .i64 cc,.int .i64 cba,.int .i64 cb0,.int .i64 cm,.int .i64 cj,.int .i64 ce] 87::.mem H2::F) Xi)
 refine Gp ?_
 refine Yk (vs:=[ptrA wp]) hS Xh rfl (λj v e=>by
  match j,e with
  | 0,e=>exact e) ?_
 refine Cg (Yf wp) λw hS=>?_
 refine zt ?_
 have hS:=MuxO.put _ rv hr hS Xp
 have hS:=RDO.monoP (xp:=xp) (Heap.le_trans h01 h12) hS Xr
 refine Gn λw hS=>?_
 (refine Cc (qe H2 xp s00 n cs (N:=0) (s00_ok 0) (by decide) (λx hx=>by cases hx) (by decide) (by decide) hng) ?_;clear hS)
 rintro r post hq w hS
 rw[e1]at hq
 obtain⟨kp,rlp,rp,H3,h23,rfl,rfl⟩:=hq
 refine Gn λw hS=>?_
 (refine Cc (qQ H3 n cl cc 0 (.slice none 0 0) [] (RdSl.nil _ _) (by decide)) ?_;clear hS)
 rintro r post hq w hS
 rcases hq with ⟨hq,_⟩|⟨_,ym,yw,H4,h34,rfl,rfl⟩
 ·exact absurd hq hmb
 refine Gn λw hS=>?_
 (refine Cc (qf kp ym H4 cc) ?_;clear hS)
 rintro r post hq w hS
 rcases hq with ⟨hq,_⟩|⟨_,zp,zg,rfl,rfl⟩
 ·exact absurd ⟨c8,c9⟩ hq
 refine Gn λw hS=>?_
 have hS:=MuxO.monoP (mp:=mp) (wp:=wp) (m:=⟨n,cl,0,[],win0 cc⟩) (Heap.le_trans h23 h34) hS Xr
 have hS:=RSrcO.monoP (k:=k00 n cs) h34 hS Xr
 have hS:=RDO.monoP (xp:=xp) h34 hS Xr
 refine⟨_,⟨⟨xb,sp,tp,dp,lp,mp,wp,pp,gp,kp,xp,rlp,rp,ym,yw,zp,zg⟩,H4,Heap.le_trans h01 (Heap.le_trans h12 (Heap.le_trans h23 h34)),rfl,rfl⟩,?_⟩
 exact SL.into hS (t:=.pt xb [ptrA dp,ptrA sp,ptrA mp,ptrA pp,ptrA xp,ptrA kp,ptrA ym,ptrA zp] 95::.pt pp (spcells sp mp wp gp cc) 201::.ob (DrrO gp drr0)::.ob (MuxO mp wp H4 ⟨n,cl,0,[],win0 cc⟩)::.ob (SrcO sp tp dp lp (k00 n cs))::.ob (DskO dp s00)::.pt zp (rspcells kp ym zg cc) 286::.ob (RDrrO zg H4 drr0)::.ob (RMuxO ym yw H4 ⟨n,cl,0,[],win0 cc⟩)::.ob (RSrcO kp xp rlp rp H4 (k00 n cs))::.ob (RDO H4 xp s00)::.mem H4::F) Xi
theorem append_ops(s:DS)(f:Int)(b:List UInt8):(s.append f b).1.ops≤s.ops+1:=by
 unfold DS.append;split
 ·exact Nat.le_succ _
 ·exact Nat.le_refl _
theorem sync_ops(s:DS)(f:Int):(s.sync f).1.ops≤s.ops+1:=by
 unfold DS.sync;split
 ·exact Nat.le_succ _
 ·split<;>exact Nat.le_refl _
theorem cut_ops(s:DS)(f n:Int):(s.cut f n).1.ops≤s.ops+1:=by
 unfold DS.cut;split
 ·exact Nat.le_succ _
 ·split
  ·exact Nat.le_succ _
  ·split<;>exact Nat.le_refl _
theorem remove_ops(s:DS)(f:Int):(s.remove f).1.ops≤s.ops+1:=by
 unfold DS.remove;split
 ·exact Nat.le_succ _
 ·split<;>exact Nat.le_refl _
theorem mendG_ops(g:PLog)(d:DS):(mendG g d).1.2.ops≤d.ops+1:=by
 unfold mendG
 split
 ·exact Nat.le_succ _
 ·simp only
  split
  ·exact remove_ops ..
  ·exact cut_ops ..
theorem appendG_ops(g:PLog)(d:DS)(p:List UInt8):(appendG g d p).1.2.ops≤d.ops+3:=by
 unfold appendG
 split
 ·exact Nat.le_add_right _ _
 ·rename_i x _
  have h1:=mendG_ops g d
  simp only
  split
  ·simp only;omega
  ·have h2:=append_ops (mendG g d).1.2 x.file x.b
   split
   ·simp only;omega
   ·have h3:=sync_ops ((mendG g d).1.2.append x.file x.b).1 x.file
    split<;>(simp only;omega)
theorem addS_ops(k:PSrc)(t:TxnD):(k.addS t).1.d.ops≤k.d.ops+3:=by
 unfold PSrc.addS
 split
 ·exact Nat.le_add_right _ _
 ·split
  ·exact Nat.le_add_right _ _
  ·simp only
   split<;>exact appendG_ops ..
theorem commitS_ops(k:PSrc)(sg:List ByteArray)(l:List Chg):(k.commitS sg l).1.d.ops≤k.d.ops+3:=by
 unfold PSrc.commitS
 split
 ·exact addS_ops ..
 ·exact Nat.le_add_right _ _
theorem markS_ops(k:PSrc)(a b:Int):(k.markS a b).1.d.ops≤k.d.ops+3:=by
 unfold PSrc.markS
 split
 ·exact addS_ops ..
 ·exact Nat.le_add_right _ _
theorem step_ops(p:PSnap):p.step.1.k.d.ops≤p.k.d.ops+3:=by
 unfold PSnap.step
 split
 ·exact Nat.le_add_right _ _
 ·split
  ·unfold PSnap.lowP PSnap.lowX
   split
   ·exact Nat.le_add_right _ _
   ·unfold PSnap.markLow
    split<;>exact markS_ops ..
  ·split
   ·exact Nat.le_add_right _ _
   ·unfold PSnap.highP
    simp only
    split<;>exact markS_ops ..
abbrev setL(t:TxnD)(n:Nat):TxnD:=⟨(n:Int)+1,t.kind,t.changes,t.signals,t.mark⟩
structure KS(n:Nat)(AL:List TxnD)(k:PSrc):Prop where
 few:Few n AL
 live:∃d0 f m,SrcL n k AL 0 [] d0 f 0 m
 off:k.d.off=false
 arm:k.d.arm=0
 full:∀s∈k.g.segs,s.l≠[]
theorem KS.init{n:Nat}(n1:1≤n)(n8:n≤8){size:Int}(s0:64≤size)(s1:size≤65536):KS n [] (k00 n size):=by
 obtain⟨_,hL⟩:=sopen00 n1 n8 s0 s1
 exact⟨Few.nil n,⟨s00,16,0,hL⟩,rfl,rfl,by simp[k00]⟩
theorem KS.head{n:Nat}{AL:List TxnD}{k:PSrc}(h:KS n AL k):headG k.g.segs=AL.length:=by
 obtain⟨d0,f,m,hL⟩:=h.live
 exact hL.head h.off
theorem KS.ts{n:Nat}{AL:List TxnD}{k:PSrc}(h:KS n AL k):k.ts=tabsN n AL:=by
 obtain⟨d0,f,m,hL⟩:=h.live
 exact hL.ts
theorem KS.read{n:Nat}{AL:List TxnD}{k:PSrc}(h:KS n AL k){j:Nat}(hj:j<AL.length):k.readS ((j:Int)+1)= .ok AL[j]:=by
 obtain⟨d0,f,m,hL⟩:=h.live
 exact hL.read h.few.ok.may (Nat.zero_le _) hj
theorem KS.add{n:Nat}{AL:List TxnD}{k:PSrc}(h:KS n AL k){t:TxnD}(hm:mayTx (setL t AL.length)=true)(hc:∀c∈t.changes,chgIn n c=true)(hf:Few n (AL++[setL t AL.length])):
  ∃k',k.addS t=(k',((AL.length:Int)+1,0))∧KS n (AL++[setL t AL.length]) k':=by
 obtain⟨d0,f,m,hL⟩:=h.live
 have ho:=h.off
 have ha:=h.arm
 have hlen:=h.few.len
 have hhead:=hL.head ho
 have hd:=hL.disk
 have hoff:d0.off=false:=by rw[hd]at ho;exact ho
 have harm:d0.arm=0:=by rw[hd]at ha;exact ha
 have hl:=hL.log.inv hoff
 have hml:=hL.img.le
 have hfile:=hL.file
 have hb:=hL.base
 have hts:=hL.ts
 have hbl:=encTxn_len hm
 have hfit:=hf.fits
 have happ:=append_live hl (p:=bytesT (setL t AL.length)) (by omega) (by rw[List.length_map,List.length_drop];omega) (by rw[List.length_map,List.length_drop,hb];omega) (by omega)
 obtain⟨ew,hw,_⟩:=appendG_win (A:=[]) (B:=[]) (d:=d0) (hL.log.gwin hb) hL.win (bytesT (setL t AL.length))
 have hcm:k.addS t=(let r:=appendG k.g k.d (bytesT (setL t AL.length));if r.2.2=0 then ({k with g:=r.1.1,d:=r.1.2,ts:=appsTs k.ts t.changes},((AL.length:Int)+1,0)) else ({k with g:=r.1.1,d:=r.1.2},(0,r.2.2))):=by
  unfold PSrc.addS
  rw[if_neg (by simp[ho]),if_neg (by rw[hts,hfit,hhead];simp;omega),hhead]
 rw[hcm,hd,ew]
 have hel:(AL.drop 0).map bytesT++[bytesT (setL t AL.length)]=((AL++[setL t AL.length]).drop 0).map bytesT:=by simp
 rcases happ with ⟨g',d',e,hv,hops,ha',ha0,hbase,hsize,hfl,_,_⟩|⟨d',e,hT,ho',hops,ha0⟩
 ·rw[e]at hw ⊢
  simp only at hw ⊢
  rw[if_pos trivial]
  rw[hel]at hv
  refine⟨_,rfl,hf,⟨d',f,m,⟨rfl,hw,hv.laid,hbase.trans hb,hL.img.mono _,hL.image,Nat.zero_le _,Nat.le_refl _,?_,hfile⟩⟩,hv.off,ha0 harm,hfl⟩
  show appsTs k.ts t.changes=_
  rw[hts,tabsN_add (t:=setL t AL.length) hc]
 ·exact absurd harm ha0
theorem KS.commit{n:Nat}{AL:List TxnD}{k:PSrc}(h:KS n AL k){sg:List ByteArray}{l:List Chg}(h2:l.length≤16)(h3:∀x∈l,mayCh x 8=true)(h4:sg.length≤2)(h5:∀s∈sg,s.size≤40)(hc:∀c∈l,chgIn n c=true)(h6:AL.length+1≤1000)(h7:(AL.flatMap (·.changes)).length+l.length≤1000):
  ∃k',k.commitS sg l=(k',((AL.length:Int)+1,0))∧KS n (AL++[⟨(AL.length:Int)+1,1,l,sg,0⟩]) k':=by
 have hm:∀lsn:Int,1≤lsn∧lsn≤1099511627776→mayTx ⟨lsn,1,l,sg,0⟩=true:=λlsn h1=>mayTx_iff.2 ⟨h1,.inl ⟨rfl,rfl,h2,h4,h3,h5⟩⟩
 have hma:=hm ((AL.length:Int)+1) (by omega)
 obtain⟨k',e,hk⟩:=h.add (t:=⟨1,1,l,sg,0⟩) hma hc (h.few.app hma rfl hc h6 h7)
 refine⟨k',?_,hk⟩
 unfold PSrc.commitS
 rw[if_pos ⟨hm 1 (by decide),λc hcl=>by rw[h.ts,tabsN_len];exact (of_decide_eq_true (hc c hcl)).2⟩]
 exact e
theorem KS.mark{n:Nat}{AL:List TxnD}{k:PSrc}(h:KS n AL k){kind mark:Int}(hk:kind=2∨kind=3)(hm:∀lsn:Int,1≤lsn∧lsn≤1099511627776→mayTx ⟨lsn,kind,[],[],mark⟩=true)(h6:AL.length+1≤1000):
  ∃k',k.markS kind mark=(k',((AL.length:Int)+1,0))∧KS n (AL++[⟨(AL.length:Int)+1,kind,[],[],mark⟩]) k':=by
 have hma:=hm ((AL.length:Int)+1) (by omega)
 obtain⟨k',e,hk'⟩:=h.add (t:=⟨1,kind,[],[],mark⟩) hma (by simp) (h.few.app hma rfl (by simp) h6 (by have:=h.few.chs;simp only[List.length_nil];omega))
 refine⟨k',?_,hk'⟩
 unfold PSrc.markS
 rw[if_pos ⟨hk,hm 1 (by decide)⟩]
 exact e
abbrev awS:ByteArray:=⟨#[115,110,97,112,115,104,111,116,32,48]⟩
abbrev awX:Chg:=⟨0,5,false,⟨#[97]⟩⟩
abbrev awT:TxnD:=⟨1,1,[awX],[awS],0⟩
abbrev awM0:PMux:=⟨1,0,0,[],win0 2⟩
abbrev awR:Rq:=⟨1,0,1,1,0,0,false⟩
abbrev awM1:PMux:=⟨1,0,1,[awR],win0 2⟩
abbrev awM2:PMux:=⟨1,0,1,[awR],⟨2,1,2,0,1,0,[],0,false⟩⟩
abbrev awM3:PMux:=⟨1,0,1,[awR],⟨2,2,2,0,1,0,[⟨5,⟨#[97]⟩⟩],5,true⟩⟩
abbrev awM4:PMux:=⟨1,0,1,[awR],⟨2,3,2,0,1,0,[⟨5,⟨#[97]⟩⟩],5,true⟩⟩
abbrev awD:PDrr:=⟨[(1,1)],0,0⟩
theorem awX_may:mayCh awX 8=true:=by decide
theorem awT_may:mayTx awT=true:=mayTx_iff.2 ⟨by decide,.inl ⟨rfl,rfl,by decide,by decide,λc hc=>by rw[List.mem_singleton.1 hc];exact awX_may,λs hs=>by rw[List.mem_singleton.1 hs];decide⟩⟩
theorem aw_take:(awM0.take awT).1=awM1∧(awM0.take awT).2.2=0:=by
 unfold PMux.take
 rw[if_neg (by rw[awT_may];decide),if_neg (by decide),if_pos rfl]
 exact⟨by kernel_rfl,rfl⟩
theorem aw_ready:readyS awM0=false∧readyS awM1=true∧readyS awM2=true∧readyS awM3=true∧readyS awM4=false:=by decide
theorem aw_low{k k2:PSrc}{AL:List TxnD}(h:KS 1 AL k)(hl:AL.length=1)(e:k.markS 2 2=(k2,(2,0))):(⟨k,awM1,drr0,2⟩:PSnap).step=(⟨k2,awM2,awD,2⟩,(3,0)):=by
 unfold PSnap.step
 rw[if_neg (by rw[aw_ready.2.1];decide),if_pos rfl]
 unfold PSnap.lowP
 have e1:(rowD drr0 [awR]).next=(awD,1):=by kernel_rfl
 show (⟨k,awM1,drr0,2⟩:PSnap).lowX (rowD drr0 [awR]).next=_
 rw[e1]
 show (⟨k,awM1,awD,2⟩:PSnap).markLow awR=_
 unfold PSnap.markLow
 simp only[h.head,hl]
 rw[show (((1:Nat):Int)+1)=2 from rfl,e]
 rfl
theorem aw_fill{k:PSrc}{AL:List TxnD}(h:KS 1 AL k)(hl:foldR 0 AL=[⟨5,⟨#[97]⟩⟩]):(⟨k,awM2,awD,2⟩:PSnap).step=(⟨k,awM3,awD,2⟩,(4,0)):=by
 unfold PSnap.step
 rw[if_neg (by rw[aw_ready.2.2.1];decide),if_neg (show ¬((1:Int)=0) by decide),if_pos rfl]
 have e:k.chunkS 0 0 2=[⟨5,⟨#[97]⟩⟩]:=by
  unfold PSrc.chunkS
  rw[h.ts]
  have:=tabAt_tabsN AL 0 (n:=1) (by decide)
  rw[show (0:Int)=((0:Nat):Int) from rfl,this,show ((0:Nat):Int)=0 from rfl,hl]
  decide
 show (({k:=k,m:={awM2 with win:=awM2.win.fill (k.chunkS 0 0 2)},d:=awD,n:=2}:PSnap),((4:Int),(0:Int)))=_
 rw[e]
 have:awM2.win.fill [⟨5,⟨#[97]⟩⟩]=awM3.win:=by unfold PWin.fill;rw[if_neg (by decide)];rfl
 rw[this]
theorem aw_high{k k2:PSrc}{a:Int}(e:k.markS 3 2=(k2,(a,0))):(⟨k,awM3,awD,2⟩:PSnap).step=(⟨k2,awM4,awD,2⟩,(5,0)):=by
 unfold PSnap.step
 rw[if_neg (by rw[aw_ready.2.2.2.1];decide),if_neg (show ¬((2:Int)=0) by decide),if_neg (show ¬((2:Int)=1) by decide)]
 unfold PSnap.highP
 simp only[e]
 rfl
theorem aw_end{k:PSrc}:(⟨k,awM4,awD,2⟩:PSnap).step=(⟨k,awM4,awD,2⟩,(0,0)):=by
 unfold PSnap.step
 rw[if_pos aw_ready.2.2.2.2]
theorem yJ:SP 42 [] [] (Gives (.bool true) []):=by
 intro W F w hS;apply vc42;unfold Vc42;(try simp only[app]at hS)
 have hS:=SL.memNil hS
 generalize Heap.emp=H at hS
 have hc:Cfg28 1 ⟨1,0,64,0,2,0,0,0,0,0⟩:=⟨rfl,by decide,by decide,by decide,by decide,by decide,by decide,by decide,by decide⟩
 have hp:=q00_good hc
 have hK:=KS.init (n:=1) (by decide) (by decide) (size:=64) (by decide) (by decide)
 refine yq rfl ?_
 (refine Cc (Ze H ⟨1,0,64,0,2,0,0,0,0,0⟩ 1 hc) ?_;clear hS)
 rintro _ post ⟨x,H1,h01,rfl,rfl⟩ w hS
 (try simp only[app]at hS)
 have hp:(⟨k00 1 64,awM0,drr0,2⟩:PSnap).Good 0:=hp
 have hS:SL W (D28 x::.pt x.pp (spcells x.sp x.mp x.wp x.gp 2) 201::.ob (DrrO x.gp drr0)::.ob (MuxO x.mp x.wp H1 awM0)::.ob (SrcO x.sp x.tp x.dp x.lp (k00 1 64))::.ob (DskO x.dp (k00 1 64).d)::.mem H1::F) w:=SL.into hS (t:=D28 x::.pt x.pp (spcells x.sp x.mp x.wp x.gp (q00 1 ⟨1,0,64,0,2,0,0,0,0,0⟩).n) 201::.ob (DrrO x.gp (q00 1 ⟨1,0,64,0,2,0,0,0,0,0⟩).d)::.ob (MuxO x.mp x.wp H1 (q00 1 ⟨1,0,64,0,2,0,0,0,0,0⟩).m)::.ob (SrcO x.sp x.tp x.dp x.lp (q00 1 ⟨1,0,64,0,2,0,0,0,0,0⟩).k)::.ob (DskO x.dp (q00 1 ⟨1,0,64,0,2,0,0,0,0,0⟩).k.d)::.mem H1::F) Xi
 have hd0:(k00 1 64).d.ops=0:=rfl
 generalize k00 1 64=k0 at *
 refine Gp ?_
 refine zt ?_
 refine Gp ?_
 refine zB hS (cells:=[.string awS]) (by rfl) λsb w hS=>?_
 obtain⟨H2,h12,hR,hS⟩:=SL.rdNew (sz:=1) (H:=H1) hS Xp rfl
 refine Gp ?_
 refine zB hS (cells:=encChg awX) (by rfl) λcb w hS=>?_
 obtain⟨H3,h23,hC,hS⟩:=SL.rdNew (sz:=4) (H:=H2) hS Xp rfl
 have h13:=Heap.le_trans h12 h23
 have hS:=MuxO.monoP (mp:=x.mp) (wp:=x.wp) (m:=awM0) h13 hS Xr
 (refine Cc (YK x.sp x.tp x.dp x.lp k0 H3 (.slice (some ⟨sb,0,none⟩) 1 1) (.slice (some ⟨cb,0,none⟩) 1 1) [awS] [awX] (hR.mono h23) hC (by decide) hp.src (by decide) (by omega)) ?_;clear hS)
 rintro r post ⟨rfl,rfl⟩ w hS
 have ho1:=commitS_ops k0 [awS] [awX]
 have hp1:=hp.commit [awS] [awX]
 obtain⟨k1,e1,hK1⟩:=hK.commit (sg:=[awS]) (l:=[awX]) (by decide) (λc hc=>by rw[List.mem_singleton.1 hc];exact awX_may) (by decide) (λc hc=>by rw[List.mem_singleton.1 hc];decide) (λc hc=>by rw[List.mem_singleton.1 hc];decide) (by decide) (by decide)
 have hK1:KS 1 [awT] k1:=hK1
 rw[e1]at hS ho1 hp1 ⊢
 simp only at hS ho1 hp1 ⊢
 clear e1 hK hp
 (try simp only[app]at hS)
 have hg1:=hp1.src.g
 have hrd:=hK1.read (j:=0) (by decide)
 have hrd:k1.readS 1= .ok awT:=hrd
 refine Gp ?_
 (refine Cc (Z0 x.sp x.tp x.dp x.lp k1 hg1 (by decide) H3 1 (by decide)) ?_;clear hS)
 rintro r post hq w hS
 unfold ReadSQ at hq
 rw[hrd]at hq
 obtain⟨xt,H4,h34,rfl,hx,rfl⟩:=hq
 clear hrd
 (try simp only[app]at hS)
 refine Gp ?_
 refine zN hS λtb w hS=>?_
 refine zL (vs:=encTx xt) hS Xu rfl rfl (encTx_one1 (lsn:=xt.lsn) (kind:=xt.kind) (mark:=xt.mark) hx.cv.one hx.sv.one) λw hS=>?_
 have hS:=MuxO.monoP (mp:=x.mp) (wp:=x.wp) (m:=awM0) h34 hS Xr
 refine Gp ?_
 refine zc (λh=>absurd rfl h) (λ_=>?_)
 refine Gp ?_
 refine zc (λh=>absurd rfl h) (λ_=>?_)
 refine Gp ?_
 (refine Cc (yA x.sp x.mp x.wp x.pp x.gp 2 H4 awM0 (by decide)) ?_;clear hS)
 rw[aw_ready.1]
 (rintro v post ⟨rfl,rfl⟩ w hS;(try simp only[app]at hS);(repeat (first|refine Gp ?_|refine Gw λw hS=>?_|refine Gb λb w hS=>?_)))
 have hmk:=(hp1.okS (by decide)).m
 obtain⟨t1,t2⟩:=aw_take
 refine⟨λus w=>∃H5:Heap,us=[.int .i64 0]∧SL W (D28 x::.pt x.pp (spcells x.sp x.mp x.wp x.gp 2) 201::.ob (DrrO x.gp drr0)::.ob (MuxO x.mp x.wp H5 awM1)::.ob (SrcO x.sp x.tp x.dp x.lp k1)::.ob (DskO x.dp k1.d)::.mem H5::F) w,?_,?_⟩
 ·refine Gn λw hS=>?_
  refine⟨?_,?_⟩
  ·(refine Cc (ZM x.mp x.wp H4 awM0 hmk xt awT hx (by decide)) ?_;clear hS)
   rintro r post ⟨x3,H5,h45,rfl,hx3,rfl⟩ w hS
   rw[t1]at hS
   rw[t2]
   (try simp only[app]at hS)
   refine Gp ?_
   refine zN hS λb1 w hS=>?_
   refine zL (vs:=encIt x3) hS Xu rfl rfl (encIt_one hx3) λw hS=>?_
   exact⟨H5,rfl,SL.into hS Xi⟩
  ·refine Gb λb1 w hS=>?_
   (refine Cc (ZM x.mp x.wp H4 awM0 hmk xt awT hx (by decide)) ?_;clear hS)
   rintro r post ⟨x3,H5,h45,rfl,hx3,rfl⟩ w hS
   rw[t1]at hS
   rw[t2]
   (try simp only[app]at hS)
   refine Gp ?_
   refine zL (vs:=encIt x3) hS Xu rfl rfl (encIt_one hx3) λw hS=>?_
   exact⟨H5,rfl,SL.into hS Xi⟩
 clear hS
 rintro v7 w ⟨H5,hus,hS⟩
 cases hus
 refine Gp ?_
 refine zc (λh=>absurd rfl h) (λ_=>?_)
 have hp2:=hp1.take awT
 simp only at hp2
 rw[t1]at hp2
 clear hp1 hmk t1 t2
 refine Gp ?_
 (refine Cc (yA x.sp x.mp x.wp x.pp x.gp 2 H5 awM1 (by decide)) ?_;clear hS)
 rw[aw_ready.2.1]
 (rintro v post ⟨rfl,rfl⟩ w hS;(try simp only[app]at hS);(repeat (first|refine Gp ?_|refine Gw λw hS=>?_|refine Gb λb w hS=>?_)))
 refine zt ?_
 have hm2:∀kind:Int,(kind=2∨kind=3)→∀lsn:Int,1≤lsn∧lsn≤1099511627776→mayTx ⟨lsn,kind,[],[],2⟩=true:=λkind h lsn h1=>mayTx_iff.2 ⟨h1,.inr ⟨h,by show (1:Int)≤2;decide,by show (2:Int)≤1099511627776;decide,rfl,rfl⟩⟩
 obtain⟨k2,e2,hK2⟩:=hK1.mark (kind:=2) (mark:=2) (.inl rfl) (hm2 2 (.inl rfl)) (by decide)
 have e2:k1.markS 2 2=(k2,(2,0)):=e2
 have s2:=aw_low hK1 rfl e2
 have o2:=step_ops ⟨k1,awM1,drr0,2⟩
 have hp3:=hp2.step
 rw[s2]at o2 hp3
 obtain⟨k3,e3,hK3⟩:=hK2.mark (kind:=3) (mark:=2) (.inr rfl) (hm2 3 (.inr rfl)) (by decide)
 have s3:=aw_fill hK2 (by kernel_rfl)
 have s4:=aw_high e3
 have o4:=step_ops ⟨k2,awM3,awD,2⟩
 have hp4:=hp3.step
 simp only at hp4
 rw[s3]at hp4
 have hp5:=hp4.step
 simp only at hp5
 rw[s4]at o4 hp5
 simp only at o2 o4 ho1 hp3 hp4 hp5
 refine Gp ?_
 (refine Cc (yF x.sp x.tp x.dp x.lp x.mp x.wp x.pp x.gp H5 ⟨k1,awM1,drr0,2⟩ (hp2.okS (by decide)) (by show k1.d.ops≤_;omega)) ?_;clear hS)
 rintro _ post ⟨H6,h56,rfl,rfl⟩ w hS
 rw[s2]at hS ⊢
 (try simp only[app]at hS);refine Gp ?_
 (refine Cc (yF x.sp x.tp x.dp x.lp x.mp x.wp x.pp x.gp H6 ⟨k2,awM2,awD,2⟩ (hp3.okS (by decide)) (by show k2.d.ops≤_;omega)) ?_;clear hS)
 rintro _ post ⟨H7,h67,rfl,rfl⟩ w hS
 rw[s3]at hS ⊢
 (try simp only[app]at hS);refine Gp ?_
 (refine Cc (yF x.sp x.tp x.dp x.lp x.mp x.wp x.pp x.gp H7 ⟨k2,awM3,awD,2⟩ (hp4.okS (by decide)) (by show k2.d.ops≤_;omega)) ?_;clear hS)
 rintro _ post ⟨H8,h78,rfl,rfl⟩ w hS
 rw[s4]at hS ⊢
 (try simp only[app]at hS);refine Gp ?_
 (refine Cc (yF x.sp x.tp x.dp x.lp x.mp x.wp x.pp x.gp H8 ⟨k3,awM4,awD,2⟩ (hp5.okS (by decide)) (by show k3.d.ops≤_;omega)) ?_;clear hS)
 rintro _ post ⟨H9,h89,rfl,rfl⟩ w hS
 rw[aw_end]at hS ⊢
 (try simp only[app]at hS);refine Gp ?_
 refine zc (λ_=>?_) (λh=>absurd rfl h)
 refine Gp ?_
 refine zc (λ_=>?_) (λh=>absurd rfl h)
 refine Gp ?_
 refine zc (λ_=>?_) (λh=>absurd rfl h)
 refine Gp ?_
 refine zc (λ_=>?_) (λh=>absurd rfl h)
 refine Gp ?_
 (refine Cc (yk x.sp x.tp x.dp x.lp k3 hp5.src.g (by decide)) ?_;clear hS)
 rw[hK3.head]
 (rintro v post ⟨rfl,rfl⟩ w hS;(try simp only[app]at hS);(repeat (first|refine Gp ?_|refine Gw λw hS=>?_|refine Gb λb w hS=>?_)))
 exact⟨_,⟨rfl,rfl⟩,SL.into hS Xi⟩
theorem Z6(H:Heap)(n:Int):SP 7 [.int .i64 n] [.mem H] (λv post=>v= .bool true∧∃H' l,H.le H'∧post= .mem H'::l):=by
 intro W F w hS;apply vc7;unfold Vc7;(try simp only[app]at hS)
 have hc:Cfg28 1 ⟨1,0,64,0,1,0,0,0,0,0⟩:=⟨rfl,by decide,by decide,by decide,by decide,by decide,by decide,by decide,by decide⟩
 refine yq rfl ?_
 (refine Cc (Ze H ⟨1,0,64,0,1,0,0,0,0,0⟩ 1 hc) ?_;clear hS)
 rintro _ post ⟨x,H1,h01,rfl,rfl⟩ w hS
 (try simp only[app]at hS)
 have hS:SL W (D28 x::.ob (MuxO x.mp x.wp H1 ⟨1,0,0,[],win0 1⟩)::.mem H1::F) w:=SL.into hS (t:=D28 x::.ob (MuxO x.mp x.wp H1 (q00 1 ⟨1,0,64,0,1,0,0,0,0,0⟩).m)::.mem H1::F) Xi
 refine Gp ?_
 refine zt ?_
 refine Gn λw hS=>?_
 (refine Cc (ZZ x.sp x.mp x.wp H1 ⟨1,0,0,[],win0 1⟩ n) ?_;clear hS)
 rintro r post hq w hS
 rcases hq with ⟨hb,rfl,rfl⟩|⟨hb,pp,gp,rfl,rfl⟩
 ·(try simp only[app]at hS);refine Gp ?_
  refine zc (λh1=>?_) (λh1=>?_)
  ·refine Gp ?_
   refine Cg (yJ) λw hS=>?_
   rw[decide_eq_false (show ¬n≤64 by omega)]
   refine zc (λ_=>?_) (λh=>absurd (by decide) h)
   refine Gp ?_
   refine zc (λ_=>?_) (λh=>absurd rfl h)
   refine Gp ?_
   refine zc (λ_=>?_) (λh=>absurd rfl h)
   refine Gp ?_
   refine zy ?_
   exact⟨_,⟨rfl,H1,[],h01,rfl⟩,SL.into hS Xi⟩
  ·skip
   refine Cg (yJ) λw hS=>?_
   refine zc (λ_=>?_) (λh=>absurd (by decide) h)
   refine Gp ?_
   refine zc (λ_=>?_) (λh=>absurd rfl h)
   refine Gp ?_
   refine zc (λ_=>?_) (λh=>absurd rfl h)
   refine Gp ?_
   refine zy ?_
   exact⟨_,⟨rfl,H1,[],h01,rfl⟩,SL.into hS Xi⟩
 ·(try simp only[app]at hS);refine Gp ?_
  refine zc (λh1=>?_) (λh1=>absurd hb.1 h1)
  refine Gp ?_
  refine Cg (yJ) λw hS=>?_
  rw[decide_eq_true hb.2]
  refine zc (λ_=>?_) (λh=>absurd (by decide) h)
  refine Gp ?_
  refine zc (λ_=>?_) (λh=>absurd rfl h)
  refine Gp ?_
  refine zt ?_
  (refine Cc (yA x.sp x.mp x.wp pp gp n H1 ⟨1,0,0,[],win0 1⟩ (by decide)) ?_;clear hS)
  rw[show readyS ⟨1,0,0,[],win0 1⟩=false by decide]
  (rintro v post ⟨rfl,rfl⟩ w hS;(try simp only[app]at hS);(repeat (first|refine Gp ?_|refine Gw λw hS=>?_|refine Gb λb w hS=>?_)))
  exact⟨_,⟨rfl,H1,[],h01,rfl⟩,SL.into hS Xi⟩
end Go.Proofs.YtfenmffiidchcaaGreat
namespace Go.Proofs.YtfenmffiidchcaaGreat
set_option linter.unusedVariables false
set_option maxRecDepth 100000
open Go.ChangeShapes Go.WideShapes Go.ChangeAt Go.RowKit
structure O28 where
 kind:Int
 n:Int
 sg:List ByteArray
 l:List Chg
structure O28V where
 kind:Int
 n:Int
 sv:Value
 cv:Value
def enc28(x:O28V):List Value:=[.int .i64 x.kind,.int .i64 x.n,x.sv,x.cv]
structure Is28(H:Heap)(x:O28V)(o:O28):Prop where
 kind:x.kind=o.kind
 n:x.n=o.n
 sv:RdSl H 1 x.sv o.sg.length (o.sg.map Value.string)
 cv:RdSl H 4 x.cv o.l.length (o.l.map encChg).flatten
theorem Is28.mono{H H':Heap}(hh:H.le H'){x:O28V}{o:O28}(h:Is28 H x o):Is28 H' x o:=⟨h.kind,h.n,h.sv.mono hh,h.cv.mono hh⟩
def Rd28(H:Heap)(v:Value)(l:List O28):Prop:=∃xs:List O28V,xs.length=l.length∧RdSl H 4 v l.length (xs.map enc28).flatten∧∀i (h:i<l.length) (h':i<xs.length),Is28 H xs[i] l[i]
def t28:GoT O28:=(tPair (tInt .i64) (tPair (tInt .i64) (tPair (tSlice tStr) (tPair (tSlice tChg) tUnit)))).via λo=>(o.kind,o.n,o.sg,o.l,())
theorem strs_of{w:World}{l:List ByteArray}{v:Value}(h:RdS tStr w Nob l v):RdSl (Heap.of w) 1 v l.length (l.map Value.string):=by
 have:=h.flat (enc:=λs=>[.string s]) (λh=>h) (λ_=>rfl)
 have e:(l.map λs=>[Value.string s]).flatten=l.map Value.string:=by
  clear this h
  induction l with
  | nil=>rfl
  | cons a l ih=>simp[ih]
 rw[e]at this
 exact this
theorem t28_rd{w:World}{o:O28}{cs:List Value}(h:t28.rd w Nob o cs):∃x:O28V,cs=enc28 x∧Is28 (Heap.of w) x o:=by
 obtain⟨c1,c2,rfl,h1,c3,c4,rfl,h3,c5,c6,rfl,h5,c7,c8,rfl,h7,h8⟩:=h
 have h1':c1=[.int .i64 o.kind]:=h1
 have h3':c3=[.int .i64 o.n]:=h3
 obtain⟨sv,h5',hsv⟩:∃v,c5=[v]∧RdS tStr w Nob o.sg v:=h5
 obtain⟨cv,h7',hcv⟩:∃v,c7=[v]∧RdS tChg w Nob o.l v:=h7
 have h8':c8=[]:=h8
 subst h1' h3' h5' h7' h8'
 exact⟨⟨o.kind,o.n,sv,cv⟩,rfl,rfl,rfl,strs_of hsv,hcv.flat tChg_rd (λ_=>rfl)⟩
theorem Rd28.of{w:World}{l:List O28}{v:Value}(h:RdS t28 w Nob l v):Rd28 (Heap.of w) v l:=by
 obtain⟨css,h1,h2,h3⟩:=RdS.cellsN h (by decide)
 have hex:∀i,∃x:O28V,∀(h:i<l.length) (h':i<css.length),css[i]=enc28 x∧Is28 (Heap.of w) x l[i]:=λi=>by
  by_cases hi:i<l.length
  ·obtain⟨x,e,hx⟩:=t28_rd (h3 i hi (by omega))
   exact⟨x,λ_ _=>⟨e,hx⟩⟩
  ·exact⟨⟨0,0,.slice none 0 0,.slice none 0 0⟩,λh=>absurd h hi⟩
 obtain⟨f,hf⟩:=Classical.axiomOfChoice hex
 refine⟨(List.range l.length).map f,by simp,?_,λi hi hi'=>by simpa using (hf i hi (by omega)).2⟩
 have e:css=((List.range l.length).map f).map enc28:=List.ext_getElem (by simp[h1]) λi g1 g2=>by simpa using (hf i (by omega) g1).1
 rw[e]at h2
 exact h2
theorem snapNews_law(n:Int)(w:World):
  Calls Tryz.prog 7 #[.int .i64 n] w λe w'=>e= .returned (.bool true)∧Below w.heap.size w w':=
 (YW (Z6 (Heap.of w) n)).calls
end Go.Proofs.YtfenmffiidchcaaGreat
