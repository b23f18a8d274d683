/-
  Texts of the proof, joined: StrS, ItsM, WrS, WrS2, WrS3, WrR, SameI, Law29P, Cfg, Law29, Law29W, Law18F, Law18H, Law29T, Law29L, Law29Q, Law29A, Law29X, Law29N.
-/
import Derived.Test.YtnmhmnnadkclbaaGreatJ10
import Derived.Lib.ConvBytes
import Derived.Laws.AppendOwn
namespace Go.Proofs.YtnmhmnnadkclbaaGreat
set_option linter.unusedVariables false
open Go.RowKit
section
variable {W w:World} {l:List Chunk} {P:Program}
theorem YX{src dst e:TypeId}{u:TypeDesc}{bs:List UInt8}{K:Value→World→Prop}(hS:SL W l w)(h1:P.underlying src=some u)(h2:P.underlying dst=some (.slice e))(h3:P.underlying e=some (.int .u8))
  (h:∀v w',SL W (.ob (OwnSl v e 1 bs.length (bs.map u8c))::l) w'→K v w'):ym P (convert src dst (.string (bstr bs))) w K:=by
 refine⟨_,_,Lib.run_convert_string_bytes w src dst e (bstr bs) h1 h2 h3,h _ _ ?_⟩
 have hg:(bstr bs).size≤grownCap w (bstr bs).size 0 e:=grownCap_ge _ _ _ _
 have e1:(Lib.bytesCells w e (bstr bs)).toList=bs.map u8c++List.replicate (grownCap w bs.length 0 e-bs.length) (.int .u8 0):=by
  unfold Lib.bytesCells
  rw[bstr_size]
  simp[bstr,u8c]
 have hn:SL W (.pt w.heap.size (Lib.bytesCells w e (bstr bs)).toList e::l) (w.drew.alloc (.cells (Lib.bytesCells w e (bstr bs)) e)):=by
  have:=(hS.drew).new (cs:=(Lib.bytesCells w e (bstr bs)).toList) (t:=e)
  simpa using this
 have hm:=hn.mark (n:=(Lib.bytesCells w e (bstr bs)).size) .hd (by simp)
 rw[e1]at hm
 rw[bstr_size]at hg ⊢
 exact OwnSl.mk hg (by simp) (by simp) hm
end
structure Its(H:Heap)(vs:List ItV)(zs:List PItem):Prop where
 len:vs.length=zs.length
 at_:∀j (h:j<vs.length) (h':j<zs.length),ItIs H vs[j] zs[j]
theorem Its.mono{H H':Heap}(hh:H.le H'){vs:List ItV}{zs:List PItem}(h:Its H vs zs):Its H' vs zs:=⟨h.len,λj a b=>(h.at_ j a b).mono hh⟩
theorem Its.snoc{H:Heap}{vs:List ItV}{zs:List PItem}(h:Its H vs zs){x:ItV}{z:PItem}(hx:ItIs H x z):Its H (vs++[x]) (zs++[z]):=by
 have hl:=h.len
 refine⟨by simp[hl],λj a b=>?_⟩
 by_cases hj:j<vs.length
 ·rw[List.getElem_append_left hj,List.getElem_append_left (by omega)]
  exact h.at_ j hj (by omega)
 ·have e:j=vs.length:=by rw[List.length_append,List.length_singleton]at a;omega
  subst e
  rw[List.getElem_append_right (Nat.le_refl _),List.getElem_append_right (by omega)]
  simpa [hl] using hx
set_option maxRecDepth 100000
def strI(x:PItem):ByteArray:=bstr (bytesItem x)
theorem rise_at:∀{l:List PItem} {b:Int} {i:Nat} (h:RiseI b l) (hi:i<l.length),lastL b (l.take i)<l[i].lsn
 | [],_,_,_,hi=>absurd hi (by simp)
 | x::l,b,0,h,_=>h.1
 | x::l,b,i+1,h,hi=>rise_at (l:=l) (b:=x.lsn) h.2 (by simpa using hi)
structure JRow(tabs:Nat)(zs:List PItem):Prop where
 it:∀x∈zs,WIt tabs x
 rise:RiseI 0 zs
 le:zs.length≤64
theorem JRow.at{tabs:Nat}{zs:List PItem}(h:JRow tabs zs)(i:Nat)(hi:i≤zs.length):JOk tabs (joinL (zs.take i)) i:=by
 have:=joinL_ok (n:=tabs) (l:=zs.take i) (λx hx=>h.it x (List.mem_of_mem_take hx)) (h.rise.take i)
 rw[List.length_take,Nat.min_eq_left hi]at this
 exact this
theorem JRow.lt{tabs:Nat}{zs:List PItem}(h:JRow tabs zs){i:Nat}(hi:i<zs.length):(joinL (zs.take i)).lsn<zs[i].lsn:=by
 rw[joinL_lsn];exact rise_at h.rise hi
theorem OpO.add{W w:World}{l:List Chunk}{v:Value}{A B:List AOp}(h:SL W (.ob (OwnSl v 96 5 (A.length+B.length) ((A.map encOp).flatten++(B.map encOp).flatten))::l) w):SL W (OpO v (A++B)::l) w:=by
 rw[show OpO v (A++B)= .ob (OwnSl v 96 5 (A.length+B.length) ((A.map encOp).flatten++(B.map encOp).flatten)) by simp[OpO]]
 exact h
theorem NtO.add{W w:World}{l:List Chunk}{v:Value}{A B:List PNote}(h:SL W (.ob (OwnSl v 98 7 (A.length+B.length) ((A.map encNote).flatten++(B.map encNote).flatten))::l) w):SL W (NtO v (A++B)::l) w:=by
 rw[show NtO v (A++B)= .ob (OwnSl v 98 7 (A.length+B.length) ((A.map encNote).flatten++(B.map encNote).flatten)) by simp[NtO]]
 exact h
theorem ops_one(A:List AOp):∀v∈(A.map encOp).flatten,v.oneCell'=true:=λv hv=>by
 obtain⟨l,hl,h⟩:=List.mem_flatten.1 hv
 obtain⟨o,_,rfl⟩:=List.mem_map.1 hl
 exact encOp_one o v h
theorem nts_one(A:List PNote):∀v∈(A.map encNote).flatten,v.oneCell'=true:=λv hv=>by
 obtain⟨l,hl,h⟩:=List.mem_flatten.1 hv
 obtain⟨o,_,rfl⟩:=List.mem_map.1 hl
 exact encNote_one o v h
theorem YZ(H:Heap)(v:Value)(vs:List ItV)(zs:List PItem)(hv:RdSl H 3 v vs.length (vs.map encIt).flatten)(hi:Its H vs zs){tabs:Nat}(hj:JRow tabs zs)(hne:zs≠[]):
  Spec Tryz.prog 199 [v] [.mem H] (λu post=>∃xv H',H.le H'∧u= .tuple #[agg (encIt xv),.int .i64 0]∧ItIs H' xv (joinL zs)∧post=[.mem H']):=by
 intro W F w hS;apply vc199;unfold Vc199;(try simp only[app]at hS)
 have hlen:=hi.len
 have h64:=hj.le
 refine Gb λrb w hS=>?_
 refine Gb λob w hS=>?_
 refine zt hv ?_
 have hS:=OwnSl.nil (t:=96) (sz:=5) hS
 have hS:=OwnSl.nil (t:=98) (sz:=7) hS
 have hS:SL W (NtO (.slice none 0 0) (joinL (zs.take 0)).notes::OpO (.slice none 0 0) (joinL (zs.take 0)).ops::.pt ob [.int .i64 (joinL (zs.take 0)).lsn,.slice none 0 0,.slice none 0 0] 46::_) _:=hS
 refine⟨λus w=>∃(i:Nat) (ov nv:Value),us=[.bool true,.int .i64 i]∧i≤zs.length∧SL W (OpO ov (joinL (zs.take i)).ops::NtO nv (joinL (zs.take i)).notes::.pt ob [.int .i64 (joinL (zs.take i)).lsn,ov,nv] 46::.pt rb [.int .i64 0,.slice none 0 0,.slice none 0 0] 46::.mem H::F) w,
  λus _=>match us with|[_,.int _ i]=>(zs.length-i).toNat|_=>0,⟨0,.slice none 0 0,.slice none 0 0,rfl,Nat.zero_le _,SL.into hS Xi⟩,?_⟩
 clear hS
 rintro v5 v10 w ⟨i,ov,nv,hus,hil,hS⟩
 cases hus
 repeat first|refine Gp ?_|refine Gw λw hS=>?_|refine Gb λb w hS=>?_
 have hji:=hj.at i hil
 refine zf (λh=>?_) (λh=>?_)
 ·have hi1:i<vs.length:=by omega
  have hi2:i<zs.length:=by omega
  have hx:=hi.at_ i hi1 hi2
  have hw:=hj.it _ (List.getElem_mem hi2)
  have hlt:=hj.lt hi2
  refine zL hS Xh encIt_len hv (List.getElem?_eq_getElem hi1) hi1 ?_
  have ht:=joinL_take hi2
  generalize zs[i]=z at *
  generalize vs[i]=x at *
  have hex:encIt x=[.int .i64 z.lsn,x.ov,x.nv]:=by unfold encIt;rw[hx.lsn]
  refine Gb λxb w hS=>?_
  refine zM hS Xu rfl rfl (encIt_one hx) λw hS=>?_
  refine zC hS Xh rfl ?_
  (apply ze (zX H x z hx) hS;exact Xp;clear hS)
  rintro _ post ⟨rfl,rfl⟩ w hS
  (try simp only[app]at hS)
  rw[hw.may]
  repeat first|refine Gp ?_|refine Gw λw hS=>?_|refine Gb λb w hS=>?_
  refine zr ?_
  rw[hex]at hS
  have hz5:=hw.ops
  have hzn:=hw.nts
  have hjl:=hji.len
  have hjn:=hji.nts
  generalize hP:joinL (zs.take i)=P at *
  refine⟨λus w=>us=[.bool true]∧SL W (.pt xb [.int .i64 z.lsn,x.ov,x.nv] 46::OpO ov P.ops::NtO nv P.notes::.pt ob [.int .i64 P.lsn,ov,nv] 46::.pt rb [.int .i64 0,.slice none 0 0,.slice none 0 0] 46::.mem H::F) w,?_,?_⟩
  ·repeat first|refine Gp ?_|refine Gw λw hS=>?_|refine Gb λb w hS=>?_
   rw[decide_eq_true hlt]
   exact⟨rfl,SL.into hS Xi⟩
  clear hS
  rintro _ w ⟨hus,hS⟩
  cases hus
  repeat first|refine Gp ?_|refine Gw λw hS=>?_|refine Gb λb w hS=>?_
  refine zy (n:=P.ops.length) (m:=z.ops.length) hS Xr (src_rd hS Xh hx.ops) (by rw[flatN_len encOp_len']) rfl (ops_one _) (by omega) (by omega) λov' w hS=>?_
  have hS:=OpO.add hS
  have o1:=OwnSl.one hS
  repeat first|refine Gp ?_|refine Gw λw hS=>?_|refine Gb λb w hS=>?_
  refine zy (n:=P.notes.length) (m:=z.notes.length) hS Xr (src_rd hS Xh hx.nts) (by rw[flatN_len encNote_len]) rfl (nts_one _) (by rw[hjn,hzn];decide) (by rw[hjn,hzn];decide) λnv' w hS=>?_
  have hS:=NtO.add hS
  have o2:=OwnSl.one hS
  repeat first|refine Gp ?_|refine Gw λw hS=>?_|refine Gb λb w hS=>?_
  refine⟨⟨i+1,ov',nv',rfl,by omega,?_⟩,by dsimp only;omega⟩
  rw[ht]
  show SL W (OpO ov' (P.ops++z.ops)::NtO nv' (P.notes++z.notes)::.pt ob [.int .i64 z.lsn,ov',nv'] 46::_) w
  exact SL.into hS Xi
 ·have hie:i=zs.length:=by omega
  subst hie
  have hpos:0<zs.length:=List.length_pos_iff.2 hne
  rw[List.take_length]at hS hji
  have hjl:=hji.len
  have hjn:=hji.nts
  generalize joinL zs=P at *
  refine zt hv ?_
  repeat first|refine Gp ?_|refine Gw λw hS=>?_|refine Gb λb w hS=>?_
  refine zf (λh0=>by omega) (λh0=>?_)
  repeat first|refine Gp ?_|refine Gw λw hS=>?_|refine Gb λb w hS=>?_
  refine zB hS (v:=ov) (t:=96) (sz:=5) (n:=P.ops.length) (cells:=(P.ops.map encOp).flatten) Xh ?_
  repeat first|refine Gp ?_|refine Gw λw hS=>?_|refine Gb λb w hS=>?_
  refine zf (λh0=>by omega) (λh0=>?_)
  repeat first|refine Gp ?_|refine Gw λw hS=>?_|refine Gb λb w hS=>?_
  refine zB hS (v:=nv) (t:=98) (sz:=7) (n:=P.notes.length) (cells:=(P.notes.map encNote).flatten) Xh ?_
  repeat first|refine Gp ?_|refine Gw λw hS=>?_|refine Gb λb w hS=>?_
  refine zf (λh1=>by rw[hjn]at h1;exact absurd h1 (by decide)) (λh1=>?_)
  repeat first|refine Gp ?_|refine Gw λw hS=>?_|refine Gb λb w hS=>?_
  refine zr ?_
  have o1:=OwnSl.one (Has.front (c:=OpO ov P.ops) hS Xr)
  have o2:=OwnSl.one (Has.front (c:=NtO nv P.notes) hS Xr)
  obtain⟨H1,h01,hR1,hS⟩:=zN (H:=H) (v:=ov) hS Xp
  obtain⟨H2,h12,hR2,hS⟩:=zN (H:=H1) (v:=nv) hS Xp
  refine zC hS Xh rfl ?_
  refine zM (vs:=[.int .i64 P.lsn,ov,nv]) hS Xu rfl rfl (encIt_one (x:=⟨P.lsn,ov,nv⟩) (t:=P) ⟨rfl,hR1.mono h12,hR2⟩) λw hS=>?_
  refine zC hS Xh rfl ?_
  exact⟨_,⟨⟨P.lsn,ov,nv⟩,H2,Heap.le_trans h01 h12,rfl,⟨rfl,hR1.mono h12,hR2⟩,rfl⟩,SL.into hS Xi⟩
structure WPs where
 wp:Nat
 kp:Nat
 gp:Nat
 dp:Nat
 lp:Nat
 pp:Nat
 qp:Nat
 qb:Nat
 rp:Nat
abbrev wtcells(kp qp rp most:Nat)(l:Int)(ov nv:Value)(n:Nat):List Value:=[ptrO kp,ptrO qp,ptrO rp,.int .i64 most,.int .i64 l,ov,nv,.int .i64 n]
def WrO(p:WPs)(c:WCf)(H:Heap)(s:PWt):zE:=HEx λh:Value × Value=>zS (ItIs H ⟨s.held.lsn,h.1,h.2⟩ s.held)
 [.pt p.wp (wtcells p.kp p.qp p.rp c.most s.held.lsn h.1 h.2 s.n) 236,.ob (SnkO p.kp p.gp p.dp p.lp p.pp H s.k),.ob (Gate p.qp p.qb c.cap s.out (s.L.map strI)),RtP p.rp c.b c.m c.j s.fails s.til]
section
variable {W w:World} {l F:List Chunk} {p:WPs} {c:WCf} {H:Heap} {s:PWt}
theorem WrO.iff:SL W (.ob (WrO p c H s)::l) w↔∃ov nv,ItIs H ⟨s.held.lsn,ov,nv⟩ s.held∧SL W (.pt p.wp (wtcells p.kp p.qp p.rp c.most s.held.lsn ov nv s.n) 236::.ob (SnkO p.kp p.gp p.dp p.lp p.pp H s.k)::.ob (Gate p.qp p.qb c.cap s.out (s.L.map strI))::RtP p.rp c.b c.m c.j s.fails s.til::l) w:=by
 unfold WrO
 simp only[SL.ex,SL.fact,List.cons_append,List.nil_append]
 exact⟨λ⟨x,h⟩=>⟨x.1,x.2,h⟩,λ⟨a,b,h⟩=>⟨(a,b),h⟩⟩
theorem WrO.open(hS:SL W l w)(r:Rem (.ob (WrO p c H s)) l F):∃ov nv,ItIs H ⟨s.held.lsn,ov,nv⟩ s.held∧SL W (.pt p.wp (wtcells p.kp p.qp p.rp c.most s.held.lsn ov nv s.n) 236::.ob (SnkO p.kp p.gp p.dp p.lp p.pp H s.k)::.ob (Gate p.qp p.qb c.cap s.out (s.L.map strI))::RtP p.rp c.b c.m c.j s.fails s.til::F) w:=WrO.iff.1 (hS.perm r.perm)
theorem WrO.put(s:PWt){ov nv:Value}(hS:SL W l w)(hi:ItIs H ⟨s.held.lsn,ov,nv⟩ s.held)(k:Pick [.pt p.wp (wtcells p.kp p.qp p.rp c.most s.held.lsn ov nv s.n) 236,.ob (SnkO p.kp p.gp p.dp p.lp p.pp H s.k),.ob (Gate p.qp p.qb c.cap s.out (s.L.map strI)),RtP p.rp c.b c.m c.j s.fails s.til] l F):SL W (.ob (WrO p c H s)::F) w:=WrO.iff.2 ⟨ov,nv,hi,hS.pick k⟩
theorem WrO.putN{k:PSink}{L:List PItem}{out n:Nat}{fails til:Int}{held:PItem}{ov nv:Value}(hS:SL W l w)(hi:ItIs H ⟨held.lsn,ov,nv⟩ held)(q:Pick [.pt p.wp (wtcells p.kp p.qp p.rp c.most held.lsn ov nv n) 236,.ob (SnkO p.kp p.gp p.dp p.lp p.pp H k),.ob (Gate p.qp p.qb c.cap out (L.map strI)),RtP p.rp c.b c.m c.j fails til] l F):SL W (.ob (WrO p c H ⟨k,L,out,fails,til,held,n⟩)::F) w:=WrO.iff.2 ⟨ov,nv,hi,hS.pick q⟩
theorem WrO.mono{H':Heap}(hh:H.le H')(h:SL W (.ob (WrO p c H s)::l) w):SL W (.ob (WrO p c H' s)::l) w:=by
 obtain⟨ov,nv,hi,hS⟩:=WrO.iff.1 h
 have hS:=SnkO.monoP hh hS Xr
 exact WrO.put s hS (hi.mono hh) Xp
theorem WrO.monoP{H':Heap}(hh:H.le H')(hS:SL W l w)(r:Rem (.ob (WrO p c H s)) l F):SL W (.ob (WrO p c H' s)::F) w:=WrO.mono hh (hS.perm r.perm)
theorem Gate.putP{g b cap out:Nat}{L:List ByteArray}(hS:SL W l w)(hA:L.length+out≤cap∧cap≤64)(k:Pick [.pt g [.pointer (some ⟨b,0,none⟩),.int .i64 out] 129,.ob (Ring b cap L)] l F):SL W (.ob (Gate g b cap out L)::F) w:=Gate.close hA (hS.pick k)
theorem gate_ring{g b cap out:Nat}{L:List ByteArray}(hS:SL W l w)(r:Rem (.ob (Gate g b cap out L)) l F):(L.length+out≤cap∧cap≤64)∧SL W (.pt g [.pointer (some ⟨b,0,none⟩),.int .i64 out] 129::.ob (Ring b cap L)::F) w:=Gate.open (hS.perm r.perm)
end
theorem wnew_bad(kp qp rp:Nat)(n:Int)(h:n<1∨64<n):Spec Tryz.prog 50 [ptrO kp,ptrO qp,ptrO rp,.int .i64 n] [] (Gives (.tuple #[.pointer none,.int .i64 1]) []):=by
 intro W F w hS;apply vc50;unfold Vc50;(try simp only[app]at hS)
 repeat first|refine Gp ?_|refine Gw λw hS=>?_|refine Gb λb w hS=>?_
 refine zf (λh1=>?_) (λh1=>?_)
 ·(exact⟨_,⟨rfl,rfl⟩,SL.into hS Xi⟩)
 ·repeat first|refine Gp ?_|refine Gw λw hS=>?_|refine Gb λb w hS=>?_
  refine zf (λh2=>?_) (λh2=>by omega)
  (exact⟨_,⟨rfl,rfl⟩,SL.into hS Xi⟩)
theorem wnew_ok(kp qp rp n:Nat)(h1:1≤n)(h2:n≤64):Spec Tryz.prog 50 [ptrO kp,ptrO qp,ptrO rp,.int .i64 n] [] (λv post=>∃p:Nat,v= .tuple #[ptrO p,.int .i64 0]∧post=[.pt p (wtcells kp qp rp n 0 (.slice none 0 0) (.slice none 0 0) 0) 236]):=by
 intro W F w hS;apply vc50;unfold Vc50;(try simp only[app]at hS)
 repeat first|refine Gp ?_|refine Gw λw hS=>?_|refine Gb λb w hS=>?_
 refine zf (λh=>by omega) (λ_=>?_)
 repeat first|refine Gp ?_|refine Gw λw hS=>?_|refine Gb λb w hS=>?_
 refine zf (λh=>by omega) (λ_=>?_)
 repeat first|refine Gp ?_|refine Gw λw hS=>?_|refine Gb λb w hS=>?_
 refine⟨_,rfl,zG hS λp w hS=>?_⟩
 exact⟨_,⟨p,rfl,rfl⟩,hS⟩
theorem yt(p:WPs)(c:WCf)(H:Heap)(s:PWt)(now:Int):Spec Tryz.prog 57 [ptrO p.wp,.int .i64 now] [.ob (WrO p c H s)] (Gives (.bool (s.ready now)) [.ob (WrO p c H s)]):=by
 intro W F w hS;apply vc57;unfold Vc57;(try simp only[app]at hS)
 obtain⟨ov,nv,hi,hS⟩:=WrO.iff.1 hS
 repeat first|refine Gp ?_|refine Gw λw hS=>?_|refine Gb λb w hS=>?_
 unfold PWt.ready
 refine zf (λh=>?_) (λh=>?_)
 ·rw[if_pos (by omega)]
  repeat first|refine Gp ?_|refine Gw λw hS=>?_|refine Gb λb w hS=>?_
  (apply ze (Yq p.rp c.b c.m c.j s.fails s.til now) hS;exact Xp;clear hS)
  (rintro v post ⟨rfl,rfl⟩ w hS;(try simp only[app]at hS);(repeat (first|refine Gp ?_|refine Gw λw hS=>?_|refine Gb λb w hS=>?_)))
  have hS:=WrO.put s hS hi Xp
  (exact⟨_,⟨rfl,rfl⟩,SL.into hS Xi⟩)
 ·rw[if_neg (by omega)]
  repeat first|refine Gp ?_|refine Gw λw hS=>?_|refine Gb λb w hS=>?_
  obtain⟨hg,hS⟩:=gate_ring hS Xr
  repeat first|refine Gp ?_|refine Gw λw hS=>?_|refine Gb λb w hS=>?_
  (apply ze (y8 p.qb c.cap (s.L.map strI)) hS;exact Xp;clear hS)
  (rintro v post ⟨rfl,rfl⟩ w hS;(try simp only[app]at hS);(repeat (first|refine Gp ?_|refine Gw λw hS=>?_|refine Gb λb w hS=>?_)))
  rw[List.length_map]
  have hS:=Gate.putP hS hg Xp
  have hS:=WrO.put s hS hi Xp
  have e:decide ((0:Int)<(s.L.length:Int))=decide (0<s.L.length):=by rw[decide_eq_decide];omega
  rw[e]
  (exact⟨_,⟨rfl,rfl⟩,SL.into hS Xi⟩)
theorem strI_dec{x:PItem}(h:mayItem x=true):decItem (bytesItem x)= .ok x:=bytesItem_dec h
theorem its_take{H:Heap}{vs:List ItV}{L:List PItem}{i:Nat}(h:Its H vs (L.take i))(hi:i<L.length){x:ItV}(hx:ItIs H x L[i]):Its H (vs++[x]) (L.take (i+1)):=by
 rw[List.take_succ_eq_append_getElem hi];exact h.snoc hx
theorem Y9(p:WPs)(c:WCf)(H:Heap)(s:PWt){tabs f:Nat}(hI:WtInv c tabs s f)(hn:s.n=0)(hL:0<s.L.length):
  Spec Tryz.prog 135 [ptrO p.wp] [.ob (WrO p c H s),.mem H] (λv post=>v= .int .i64 0∧∃H',H.le H'∧post=[.ob (WrO p c H' (s.hold c.most)),.mem H']):=by
 intro W F w hS;apply vc135;unfold Vc135;(try simp only[app]at hS)
 obtain⟨ov,nv,hi,hS⟩:=WrO.iff.1 hS
 have hc1:=hI.most1
 have hc2:=hI.most
 have hroom:=hI.room
 have hcap:=hI.cap
 obtain⟨F2,hF2⟩:∃F2,F2=RtP p.rp c.b c.m c.j s.fails s.til::F:=⟨_,rfl⟩
 have hS:=SL.into hS (t:=.pt p.wp (wtcells p.kp p.qp p.rp c.most s.held.lsn ov nv s.n) 236::.ob (SnkO p.kp p.gp p.dp p.lp p.pp H s.k)::.ob (Gate p.qp p.qb c.cap s.out (s.L.map strI))::.mem H::RtP p.rp c.b c.m c.j s.fails s.til::F) Xi
 rw[← hF2]at hS
 have hend:s.hold c.most=⟨s.k,s.L.drop (min c.most s.L.length),s.out+min c.most s.L.length,s.fails,s.til,joinL (s.L.take (min c.most s.L.length)),min c.most s.L.length⟩:=by
  unfold PWt.hold
  rw[if_pos hn]
  rcases Nat.le_total c.most s.L.length with h|h
  ·rw[Nat.min_eq_left h]
  ·rw[Nat.min_eq_right h,List.drop_eq_nil_of_le h,List.take_of_length_le h,List.drop_eq_nil_of_le (Nat.le_refl _),List.take_of_length_le (Nat.le_refl _)]
 have hm:∃m,m=min c.most s.L.length:=⟨_,rfl⟩
 obtain⟨m,hm⟩:=hm
 rw[← hm]at hend
 refine⟨λus w=>∃(lv:Value) (vs:List ItV) (H2:Heap),us=[lv]∧H.le H2∧Its H2 vs (s.L.take m)∧SL W (.ob (OwnSl lv 46 3 vs.length (vs.map encIt).flatten)::.pt p.wp (wtcells p.kp p.qp p.rp c.most s.held.lsn ov nv s.n) 236::.ob (SnkO p.kp p.gp p.dp p.lp p.pp H2 s.k)::.ob (Gate p.qp p.qb c.cap (s.out+m) ((s.L.drop m).map strI))::.mem H2::F2) w,?_,?_⟩
 ·have hS:=OwnSl.nil (t:=46) (sz:=3) hS
  have hS:SL W (.ob (OwnSl (.slice none 0 0) 46 3 ([]:List ItV).length (([]:List ItV).map encIt).flatten)::.pt p.wp (wtcells p.kp p.qp p.rp c.most s.held.lsn ov nv s.n) 236::.ob (SnkO p.kp p.gp p.dp p.lp p.pp H s.k)::.ob (Gate p.qp p.qb c.cap (s.out+0) ((s.L.drop 0).map strI))::.mem H::F2) w:=hS
  refine⟨λus w=>∃(i:Nat) (lv:Value) (vs:List ItV) (H2:Heap),us=[lv]∧vs.length=i∧i≤c.most∧i≤s.L.length∧H.le H2∧Its H2 vs (s.L.take i)∧SL W (.ob (OwnSl lv 46 3 vs.length (vs.map encIt).flatten)::.pt p.wp (wtcells p.kp p.qp p.rp c.most s.held.lsn ov nv s.n) 236::.ob (SnkO p.kp p.gp p.dp p.lp p.pp H2 s.k)::.ob (Gate p.qp p.qb c.cap (s.out+i) ((s.L.drop i).map strI))::.mem H2::F2) w,
   λus _=>match us with|[.slice _ n _]=>c.most-n|_=>0,⟨0,.slice none 0 0,[],H,rfl,rfl,by omega,by omega,Heap.le_refl H,⟨rfl,λj h=>by simp at h⟩,hS⟩,?_⟩
  clear hS
  rintro lv w ⟨i,_,vs,H2,hus,hvl,him,hil,h02,hIt,hS⟩
  cases hus
  obtain⟨a,cp,rfl,_⟩:=OwnSl.at hS .hd
  subst hvl
  repeat first|refine Gp ?_|refine Gw λw hS=>?_|refine Gb λb w hS=>?_
  refine zf (λh=>?_) (λh=>?_)
  ·repeat first|refine Gp ?_|refine Gw λw hS=>?_|refine Gb λb w hS=>?_
   by_cases hie:vs.length=s.L.length
   ·have e0:s.L.drop vs.length=[]:=List.drop_eq_nil_of_le (by omega)
    rw[e0,List.map_nil]at hS
    (apply ze (gpop_no p.qp p.qb c.cap (s.out+vs.length)) hS;exact Xp;clear hS)
    rintro _ post ⟨rfl,rfl⟩ w hS
    (try simp only[app]at hS)
    repeat first|refine Gp ?_|refine Gw λw hS=>?_|refine Gb λb w hS=>?_
    refine zx ?_
    have hmi:m=vs.length:=by omega
    subst hmi
    have e1:([]:List ByteArray)=(s.L.drop vs.length).map strI:=by rw[e0];rfl
    rw[e1]at hS
    exact⟨_,vs,H2,rfl,h02,hIt,SL.into hS Xi⟩
   ·have hi2:vs.length<s.L.length:=by omega
    have hw:=hI.it _ (List.getElem_mem hi2)
    have hIt3:=λ{H3:Heap} (h23:H2.le H3) {x:ItV} (hx:ItIs H3 x s.L[vs.length])=>its_take (hIt.mono h23) hi2 hx
    rw[List.drop_eq_getElem_cons hi2,List.map_cons]at hS
    generalize s.L[vs.length]=z at *
    (apply ze (gpop_yes p.qp p.qb c.cap (s.out+vs.length) (strI z) ((s.L.drop (vs.length+1)).map strI)) hS;exact Xp;clear hS)
    rintro _ post ⟨rfl,rfl⟩ w hS
    (try simp only[app]at hS)
    repeat first|refine Gp ?_|refine Gw λw hS=>?_|refine Gb λb w hS=>?_
    refine zr ?_
    refine YX (bs:=bytesItem z) hS Tryz.underlying9 Tryz.underlying54 Tryz.underlying5 λbv w hS=>?_
    (apply ze (ZY (.ob (OwnSl bv 5 1 (bytesItem z).length ((bytesItem z).map u8c))) H2 bv (bytesItem z) Rdb.own) hS;exact Xp;clear hS)
    rintro r post hq w hS
    unfold DecIQ at hq
    rw[strI_dec hw.may]at hq
    obtain⟨x,H3,h23,rfl,hx,rfl⟩:=hq
    (try simp only[app]at hS)
    have hS:=SnkO.monoP h23 hS Xr
    repeat first|refine Gp ?_|refine Gw λw hS=>?_|refine Gb λb w hS=>?_
    refine zM hS Xu rfl rfl (encIt_one hx) λw hS=>?_
    refine Gp ?_
    refine zf (λh=>absurd rfl h) (λ_=>?_)
    refine zC hS Xh rfl ?_
    refine Gb λyb w hS=>?_
    refine zy (n:=vs.length) (m:=1) hS Xr (src_pt0 (cs:=encIt x) hS Xh rfl) rfl rfl (encIt_one hx) (by omega) (by omega) λlv2 w hS=>?_
    rw[← flat_snoc]at hS
    rw[show s.out+vs.length+1=s.out+(vs.length+1) by omega]at hS
    have hS:=hS.snocL (xs:=vs) (x:=x)
    obtain⟨a2,cp2,rfl,_⟩:=OwnSl.at hS .hd
    refine⟨⟨vs.length+1,_,vs++[x],H3,rfl,by simp,by omega,by omega,Heap.le_trans h02 h23,hIt3 h23 hx,SL.into hS Xi⟩,?_⟩
    simp only[List.length_append,List.length_singleton]
    omega
  ·have hmi:m=vs.length:=by omega
   subst hmi
   exact⟨_,vs,H2,rfl,h02,hIt,SL.into hS Xi⟩
 ·clear hS
  rintro lv w ⟨_,vs,H2,hus,h02,hIt,hS⟩
  cases hus
  obtain⟨H3,h23,hR,hS⟩:=zN (H:=H2) (v:=lv) hS Xp
  have hS:=SnkO.monoP h23 hS Xr
  have hne:s.L.take m≠[]:=λh=>by
   have:=congrArg List.length h
   rw[List.length_take,List.length_nil]at this
   omega
  have hvl:vs.length=m:=by have:=hIt.len;rw[List.length_take]at this;omega
  (apply ze (YZ H3 lv vs (s.L.take m) hR (hIt.mono h23) (tabs:=tabs) ⟨λx hx=>hI.it x (List.mem_of_mem_take hx),hI.rise.take _,by rw[List.length_take];omega⟩ hne) hS;exact Xp;clear hS)
  rintro _ post ⟨xv,H4,h34,rfl,hx,rfl⟩ w hS
  (try simp only[app]at hS)
  have hS:=SnkO.monoP h34 hS Xr
  have hxl:=hx.lsn
  obtain⟨xl,xo,xn⟩:=xv
  simp only at hxl
  subst hxl
  repeat first|refine Gp ?_|refine Gw λw hS=>?_|refine Gb λb w hS=>?_
  refine zM hS Xu rfl rfl (encIt_one hx) λw hS=>?_
  refine Gp ?_
  refine zf (λ_=>?_) (λh=>absurd rfl h)
  refine zC hS Xh rfl ?_
  refine zt hR ?_
  rw[hvl]
  repeat first|refine Gp ?_|refine Gw λw hS=>?_|refine Gb λb w hS=>?_
  refine Qx (o:=4) (vs:=encIt ⟨(joinL (s.L.take m)).lsn,xo,xn⟩) hS Xu rfl (by show 7≤8;decide) (encIt_one hx) λw hS=>?_
  simp only[encIt,List.take,List.drop,List.cons_append,List.nil_append]at hS
  repeat first|refine Gp ?_|refine Gw λw hS=>?_|refine Gb λb w hS=>?_
  rw[hend]
  rw[hF2]at hS
  have hS:=WrO.putN (p:=p) (c:=c) (held:=joinL (s.L.take m)) (n:=m) hS hx Xp
  exact⟨_,⟨rfl,H4,Heap.le_trans h02 (Heap.le_trans h23 h34),rfl⟩,SL.into hS Xi⟩
theorem Y7(kp gp dp lp pp:Nat)(H:Heap)(k:PSink)(x:ItV)(t:PItem)(hx:ItIs H x t)(hi:IOk t)(hkeys:∀o∈t.ops,inI64 o.key){N m:Nat}(hk:KOk k N m):
  Spec Tryz.prog 136 [agg [ptrO kp],agg (encIt x)] [.ob (SnkO kp gp dp lp pp H k),.mem H] (KAns kp gp dp lp pp H (k.commitK t)):=by
 intro W F w hS;apply vc136;unfold Vc136;(try simp only[app]at hS)
 refine zD hS λab w hS=>?_
 refine zD hS λxb w hS=>?_
 repeat first|refine Gp ?_|refine Gw λw hS=>?_|refine Gb λb w hS=>?_
 (apply ze (Yj kp gp dp lp pp H k x t hx hi hkeys hk) hS;exact Xp;clear hS)
 rintro v post ⟨rfl,H',hh,rfl⟩ w hS
 (try simp only[app]at hS)
 exact⟨_,⟨rfl,H',hh,rfl⟩,SL.into hS Xi⟩
def StepQ(O:Heap→PWt→Chunk)(H:Heap)(y:PWt × Int × Int)(v:Value)(post:List Chunk):Prop:=v= .tuple #[.int .i64 y.2.1,.int .i64 y.2.2]∧∃H',H.le H'∧post=[O H' y.1,.mem H']
theorem WtInv.iok{c:WCf}{tabs f:Nat}{s:PWt}(h:WtInv c tabs s f)(hn:0<s.n):mayItem s.held=true∧IOk s.held∧∀o∈s.held.ops,inI64 o.key:=by
 have h1:=h.room
 have h2:=h.out
 have h3:=h.cap
 rcases h.held with ⟨h4,_⟩|⟨_,h4⟩
 ·omega
 ·have hm:=(h4.may hn (by omega)).1
  exact⟨hm,mayItem_iok hm⟩
theorem it_cells{a b c d:Value}{l:Int}{ov nv e:Value}:∀j v,([.int .i64 l,ov,nv]:List Value)[j]?=some v→[a,b,c,d,.int .i64 l,ov,nv,e][4+j]?=some v
 | 0,v,h=>h
 | 1,v,h=>h
 | 2,v,h=>h
 | j+3,v,h=>by simp at h
theorem zU(p:WPs)(c:WCf)(H:Heap)(s:PWt)(now draw:Int){tabs f N m:Nat}(hI:WtInv c tabs s f)(hf:f≤1000000)(hk:KOk s.k N m):
  Spec Tryz.prog 54 [ptrO p.wp,.int .i64 now,.int .i64 draw] [.ob (WrO p c H s),.mem H] (StepQ (λH s=>.ob (WrO p c H s)) H (s.step c now draw)):=by
 intro W F w hS;apply vc54;unfold Vc54;(try simp only[app]at hS)
 (apply ze (yt p c H s now) hS;exact Xp;clear hS)
 rintro _ post ⟨rfl,rfl⟩ w hS
 (try simp only[app]at hS)
 unfold PWt.step
 cases hr:s.ready now with
 | false=>
  rw[if_neg (by decide)]
  repeat first|refine Gp ?_|refine Gw λw hS=>?_|refine Gb λb w hS=>?_
  refine zx ?_
  exact⟨_,⟨rfl,H,Heap.le_refl H,rfl⟩,SL.into hS Xi⟩
 | true=>
 rw[if_pos rfl]
 repeat first|refine Gp ?_|refine Gw λw hS=>?_|refine Gb λb w hS=>?_
 refine zr ?_
 obtain⟨hI1,hn1⟩:=hI.hold hr
 have hk1:(s.hold c.most).k=s.k:=by unfold PWt.hold;split<;>rfl
 refine⟨λus w=>∃H2,us=[]∧H.le H2∧SL W (.ob (WrO p c H2 (s.hold c.most))::.mem H2::F) w,?_,?_⟩
 ·obtain⟨ov,nv,hi,hS⟩:=WrO.open hS Xr
  repeat first|refine Gp ?_|refine Gw λw hS=>?_|refine Gb λb w hS=>?_
  have hS:=WrO.put s hS hi Xp
  refine zf (λh=>?_) (λh=>?_)
  ·have hL:0<s.L.length:=by
    unfold PWt.ready at hr
    rw[if_neg (by omega),decide_eq_true_eq]at hr
    exact hr
   (apply ze (Y9 p c H s hI (by omega) hL) hS;exact Xp;clear hS)
   rintro _ post ⟨rfl,H2,h02,rfl⟩ w hS
   (try simp only[app]at hS)
   repeat first|refine Gp ?_|refine Gw λw hS=>?_|refine Gb λb w hS=>?_
   refine zf (λh=>absurd rfl h) (λ_=>?_)
   exact⟨H2,rfl,h02,SL.into hS Xi⟩
  ·have e:s.hold c.most=s:=by unfold PWt.hold;rw[if_neg (by omega)]
   rw[e]
   exact⟨H,rfl,Heap.le_refl H,SL.into hS Xi⟩
 clear hS
 rintro w ⟨H2,-,h02,hS⟩
 rw[← hk1]at hk
 clear hI hk1 hr
 generalize s.hold c.most=s1 at *
 obtain⟨ov,nv,hi,hS⟩:=WrO.open hS Xr
 obtain⟨hm,hio,hkeys⟩:=hI1.iok hn1
 have hf0:=hI1.f0
 have hf1:=hI1.f1
 have hg:=giveN_le s1.n s1.out
 repeat first|refine Gp ?_|refine Gw λw hS=>?_|refine Gb λb w hS=>?_
 refine Z1 (vs:=[ptrO p.kp]) hS Xh rfl (λj v h=>?_) ?_
 ·match j,h with
  | 0,h=>exact h
  | j+1,h=>simp at h
 repeat first|refine Gp ?_|refine Gw λw hS=>?_|refine Gb λb w hS=>?_
 refine Z1 (vs:=[.int .i64 s1.held.lsn,ov,nv]) hS Xh rfl it_cells ?_
 have hI2:ItIs H2 ⟨s1.held.lsn,ov,nv⟩ s1.held:=hi
 (apply ze (Y7 p.kp p.gp p.dp p.lp p.pp H2 s1.k ⟨s1.held.lsn,ov,nv⟩ s1.held hI2 hio hkeys hk) hS;exact Xp;clear hS)
 rintro _ post ⟨rfl,H3,h23,rfl⟩ w hS
 (try simp only[app]at hS)
 have h03:=Heap.le_trans h02 h23
 have hi3:=hi.mono h23
 unfold PWt.hand
 generalize s1.k.commitK s1.held=y at *
 obtain⟨k',e⟩:=y
 simp only at hS ⊢
 repeat first|refine Gp ?_|refine Gw λw hS=>?_|refine Gb λb w hS=>?_
 refine zf (λh0=>?_) (λh0=>?_)
 ·rw[if_pos h0]
  repeat first|refine Gp ?_|refine Gw λw hS=>?_|refine Gb λb w hS=>?_
  (apply ze (qs s1.n p.qp p.qb c.cap s1.out (s1.L.map strI)) hS;exact Xp;clear hS)
  (rintro v post ⟨rfl,rfl⟩ w hS;(try simp only[app]at hS);(repeat (first|refine Gp ?_|refine Gw λw hS=>?_|refine Gb λb w hS=>?_)))
  (apply ze (qt p.rp c.b c.m c.j s1.fails s1.til) hS;exact Xp;clear hS)
  (rintro v post ⟨rfl,rfl⟩ w hS;(try simp only[app]at hS);(repeat (first|refine Gp ?_|refine Gw λw hS=>?_|refine Gb λb w hS=>?_)))
  refine Qx (o:=4) (vs:=[.int .i64 0,.slice none 0 0,.slice none 0 0]) hS Xu rfl (by show 7≤8;decide) (by simp[Value.oneCell']) λw hS=>?_
  simp only[List.take,List.drop,List.cons_append,List.nil_append]at hS
  repeat first|refine Gp ?_|refine Gw λw hS=>?_|refine Gb λb w hS=>?_
  have hS:SL W (_::_::_::_::.pt p.wp (wtcells p.kp p.qp p.rp c.most it0.lsn (.slice none 0 0) (.slice none 0 0) 0) 236::_) w:=hS
  have hS:=WrO.putN (p:=p) (c:=c) (H:=H3) (L:=s1.L) (held:=it0) (n:=0) (ov:=.slice none 0 0) (nv:=.slice none 0 0) hS ⟨rfl,RdSl.nil _ _,RdSl.nil _ _⟩ Xp
  exact⟨_,⟨rfl,H3,h03,rfl⟩,SL.into hS Xi⟩
 ·rw[if_neg h0]
  repeat first|refine Gp ?_|refine Gw λw hS=>?_|refine Gb λb w hS=>?_
  refine zf (λh9=>?_) (λh9=>?_)
  ·rw[if_pos h9]
   repeat first|refine Gp ?_|refine Gw λw hS=>?_|refine Gb λb w hS=>?_
   (apply ze (Y2 p.rp c.b c.m c.j s1.fails s1.til now draw (by omega)) hS;exact Xp;clear hS)
   (rintro v post ⟨rfl,rfl⟩ w hS;(try simp only[app]at hS);(repeat (first|refine Gp ?_|refine Gw λw hS=>?_|refine Gb λb w hS=>?_)))
   have hS:=WrO.putN (p:=p) (c:=c) (H:=H3) (L:=s1.L) (held:=s1.held) hS hi3 Xp
   exact⟨_,⟨rfl,H3,h03,rfl⟩,SL.into hS Xi⟩
  ·rw[if_neg h9]
   have hS:=WrO.putN (p:=p) (c:=c) (H:=H3) (L:=s1.L) (held:=s1.held) hS hi3 Xp
   exact⟨_,⟨rfl,H3,h03,rfl⟩,SL.into hS Xi⟩
theorem clone_ops(H:Heap)(v:Value)(L:List AOp)(hv:RdOps H v L)(hn:L.length≤1000000):Spec Tryz.prog 195 [v] [.mem H] (λu post=>post=[OpO u L,.mem H]):=
 clone_rd (λv0 w R h=>vc195 v0 w R h) rfl (by decide) hv (ops_one L) (by omega) (by omega)
theorem clone_nts(H:Heap)(v:Value)(L:List PNote)(hv:RdNts H v L)(hn:L.length≤1000000):Spec Tryz.prog 196 [v] [.mem H] (λu post=>post=[NtO u L,.mem H]):=
 clone_rd (λv0 w R h=>vc196 v0 w R h) rfl (by decide) hv (nts_one L) (by omega) (by omega)
theorem qn(p:WPs)(c:WCf)(H:Heap)(s:PWt)(h1:s.held.ops.length≤1000000)(h2:s.held.notes.length≤1000000):
  Spec Tryz.prog 132 [ptrO p.wp] [.ob (WrO p c H s),.mem H] (λv post=>∃hv H',H.le H'∧v=agg (encIt hv)∧ItIs H' hv s.held∧post=[.ob (WrO p c H' s),.mem H']):=by
 intro W F w hS;apply vc132;unfold Vc132;(try simp only[app]at hS)
 obtain⟨ov,nv,hi,hS⟩:=WrO.iff.1 hS
 have o1:=hi.ops.one
 have o2:=hi.nts.one
 refine Gb λrb w hS=>?_
 repeat first|refine Gp ?_|refine Gw λw hS=>?_|refine Gb λb w hS=>?_
 refine Z1 (vs:=[.int .i64 s.held.lsn,ov,nv]) hS Xh rfl it_cells ?_
 refine Gb λxb w hS=>?_
 refine zM hS Xu rfl rfl (encIt_one hi) λw hS=>?_
 repeat first|refine Gp ?_|refine Gw λw hS=>?_|refine Gb λb w hS=>?_
 (apply ze (clone_ops H ov s.held.ops hi.ops h1) hS;exact Xp;clear hS)
 rintro u1 post rfl w hS
 (try simp only[app]at hS)
 repeat first|refine Gp ?_|refine Gw λw hS=>?_|refine Gb λb w hS=>?_
 (apply ze (clone_nts H nv s.held.notes hi.nts h2) hS;exact Xp;clear hS)
 rintro u2 post rfl w hS
 (try simp only[app]at hS)
 have o3:=OwnSl.one (Has.front (c:=OpO u1 s.held.ops) hS Xr)
 have o4:=OwnSl.one (Has.front (c:=NtO u2 s.held.notes) hS Xr)
 obtain⟨H1,h01,hR1,hS⟩:=zN (H:=H) (v:=u1) hS Xp
 obtain⟨H2,h12,hR2,hS⟩:=zN (H:=H1) (v:=u2) hS Xp
 have h02:=Heap.le_trans h01 h12
 have hS:=SnkO.monoP h02 hS Xr
 repeat first|refine Gp ?_|refine Gw λw hS=>?_|refine Gb λb w hS=>?_
 have hq:ItIs H2 ⟨s.held.lsn,u1,u2⟩ s.held:=⟨rfl,hR1.mono h12,hR2⟩
 refine zM (vs:=[.int .i64 s.held.lsn,u1,u2]) hS Xu rfl rfl (encIt_one hq) λw hS=>?_
 refine zC hS Xh rfl ?_
 have hS:=WrO.put s hS (hi.mono h02) Xp
 exact⟨_,⟨⟨s.held.lsn,u1,u2⟩,H2,h02,rfl,hq,rfl⟩,SL.into hS Xi⟩
structure RPs where
 yp:Nat
 kp:Nat
 xp:Nat
 lp:Nat
 rp:Nat
 qp:Nat
 rr:Nat
abbrev RdG(H:Heap)(v:Value)(L:List PItem):Prop:=RdSl H 1 v (L.map strI).length ((L.map strI).map .string)
def RWrO(p:RPs)(c:WCf)(H:Heap)(s:PWt):zE:=HEx λh:Value × Value × Value=>zS (ItIs H ⟨s.held.lsn,h.1,h.2.1⟩ s.held∧RdG H h.2.2 s.L)
 [.pt p.yp (wtcells p.kp p.qp p.rr c.most s.held.lsn h.1 h.2.1 s.n) 140,.ob (RSnkO p.kp p.xp p.lp p.rp H s.k),RG p.qp c.cap (c.cap-s.L.length-s.out) s.out h.2.2,RRtP p.rr c.b c.m c.j s.fails s.til]
section
variable {W w:World} {l F:List Chunk} {p:RPs} {c:WCf} {H:Heap} {s:PWt}
theorem RWrO.iff:SL W (.ob (RWrO p c H s)::l) w↔∃ov nv gv,(ItIs H ⟨s.held.lsn,ov,nv⟩ s.held∧RdG H gv s.L)∧SL W (.pt p.yp (wtcells p.kp p.qp p.rr c.most s.held.lsn ov nv s.n) 140::.ob (RSnkO p.kp p.xp p.lp p.rp H s.k)::RG p.qp c.cap (c.cap-s.L.length-s.out) s.out gv::RRtP p.rr c.b c.m c.j s.fails s.til::l) w:=by
 unfold RWrO
 simp only[SL.ex,SL.fact,List.cons_append,List.nil_append]
 exact⟨λ⟨x,h⟩=>⟨x.1,x.2.1,x.2.2,h⟩,λ⟨a,b,d,h⟩=>⟨(a,b,d),h⟩⟩
theorem RWrO.open(hS:SL W l w)(r:Rem (.ob (RWrO p c H s)) l F):∃ov nv gv,(ItIs H ⟨s.held.lsn,ov,nv⟩ s.held∧RdG H gv s.L)∧SL W (.pt p.yp (wtcells p.kp p.qp p.rr c.most s.held.lsn ov nv s.n) 140::.ob (RSnkO p.kp p.xp p.lp p.rp H s.k)::RG p.qp c.cap (c.cap-s.L.length-s.out) s.out gv::RRtP p.rr c.b c.m c.j s.fails s.til::F) w:=RWrO.iff.1 (hS.perm r.perm)
theorem RWrO.put(s:PWt){ov nv gv:Value}(hS:SL W l w)(hi:ItIs H ⟨s.held.lsn,ov,nv⟩ s.held)(hg:RdG H gv s.L)(k:Pick [.pt p.yp (wtcells p.kp p.qp p.rr c.most s.held.lsn ov nv s.n) 140,.ob (RSnkO p.kp p.xp p.lp p.rp H s.k),RG p.qp c.cap (c.cap-s.L.length-s.out) s.out gv,RRtP p.rr c.b c.m c.j s.fails s.til] l F):SL W (.ob (RWrO p c H s)::F) w:=RWrO.iff.2 ⟨ov,nv,gv,⟨hi,hg⟩,hS.pick k⟩
theorem RWrO.putN{k:PSink}{L:List PItem}{cr out n:Nat}{fails til:Int}{held:PItem}{ov nv gv:Value}(hS:SL W l w)(hi:ItIs H ⟨held.lsn,ov,nv⟩ held)(hg:RdG H gv L)(q:Pick [.pt p.yp (wtcells p.kp p.qp p.rr c.most held.lsn ov nv n) 140,.ob (RSnkO p.kp p.xp p.lp p.rp H k),RG p.qp c.cap cr out gv,RRtP p.rr c.b c.m c.j fails til] l F)(hc:cr=c.cap-L.length-out):SL W (.ob (RWrO p c H ⟨k,L,out,fails,til,held,n⟩)::F) w:=by
 subst hc
 exact RWrO.iff.2 ⟨ov,nv,gv,⟨hi,hg⟩,hS.pick q⟩
theorem RWrO.mono{H':Heap}(hh:H.le H')(h:SL W (.ob (RWrO p c H s)::l) w):SL W (.ob (RWrO p c H' s)::l) w:=by
 obtain⟨ov,nv,gv,⟨hi,hg⟩,hS⟩:=RWrO.iff.1 h
 have hS:=RSnkO.monoP hh hS Xr
 exact RWrO.put s hS (hi.mono hh) (hg.mono hh) Xp
theorem RWrO.monoP{H':Heap}(hh:H.le H')(hS:SL W l w)(r:Rem (.ob (RWrO p c H s)) l F):SL W (.ob (RWrO p c H' s)::F) w:=RWrO.mono hh (hS.perm r.perm)
end
theorem PInv.up{n:Nat}{k:PSink}{j:Nat}{xs:List PItem}{m:Option PItem}(h:PInv n k j xs m)(hj:j≤100)(hu:Up k){x:PItem}{L:List Rq}(hf:fitsR n k.reqs x=some L):
  Up (k.commitK x).1∧(k.commitK x).1.plan=k.plan.drop 1∧(k.commitK x).2=(if k.plan=[] then 0 else 9) ∧
   ((k.lsn<x.lsn∧(k.commitK x).1.tr=((putAll k.ts x.ops).1,L,x.lsn)∧PInv n (k.commitK x).1 (j+1) (xs++[x]) none) ∨
    ((k.lsn<x.lsn→k.plan≠[])∧(k.commitK x).1.tr=k.tr∧∃m',PInv n (k.commitK x).1 (j+1) xs m')):=by
 have hlen:=h.len
 have hm:=(fitsR_may hf).1
 have h1:¬(mayItem x=false∨(k.lsn<x.lsn∧fitsR k.ts.length k.reqs x=none)):=by
  rintro (h1|⟨_,h1⟩)
  ·rw[hm]at h1;cases h1
  ·rw[h.s.len,hf]at h1;cases h1
 by_cases hp:k.plan=[]
 ·by_cases hl:k.lsn<x.lsn
  ·obtain⟨g1,g2,g3,g4,g5,g6⟩:=h.good hj hu.off hu.arm hp hl hf
   exact⟨⟨g4,g5⟩,by rw[g6,hp];rfl,by rw[if_pos hp];exact g1,.inl ⟨hl,g3,g2⟩⟩
  ·rw[commitK_old hu.off hp hm hl]
   exact⟨hu,by rw[hp];rfl,by rw[if_pos hp],.inr ⟨λh=>absurd h hl,rfl,m,h.mono (by omega)⟩⟩
 ·obtain⟨f,r,hp'⟩:∃f r,k.plan=f::r:=by
   cases hk:k.plan with
   | nil=>exact absurd hk hp
   | cons f r=>exact⟨f,r,rfl⟩
  have hfm:mayFt f=true:=h.plm f (by rw[hp'];exact .head _)
  obtain⟨ys,m2,hI⟩:=h.commit hj x
  have hk':SInv n {k with plan:=r} xs m:=h.s.plan r
  rw[if_neg hp]
  have e0:k.commitK x=if f.kind=3∧k.lsn<x.lsn then ((PSink.writeK {k with plan:=r} x L).1,if (PSink.writeK {k with plan:=r} x L).2=0 then 9 else (PSink.writeK {k with plan:=r} x L).2) else if f.kind=2∧k.lsn<x.lsn then ((PSink.tearK {k with plan:=r} x f.keep).1,if (PSink.tearK {k with plan:=r} x f.keep).2=0 then 9 else (PSink.tearK {k with plan:=r} x f.keep).2) else ({k with plan:=r},9):=by
   unfold PSink.commitK
   rw[if_neg h1,if_neg (by rw[hu.off];decide),hp']
   simp only
   rw[h.s.len,hf]
   simp only[Option.getD_some]
   by_cases hl:k.lsn<x.lsn
   ·simp only[hl,and_true,if_true]
   ·by_cases h3:f.kind=3
    ·simp[hl,h3]
    ·simp[hl,h3]
  have hd:k.plan.drop 1=r:=by rw[hp'];rfl
  rw[hd]
  by_cases h3:f.kind=3∧k.lsn<x.lsn
  ·rw[if_pos h3]at e0
   rcases writeK_inv hk' h.d.arm0 hu.off (by omega) (L:=L) hf h3.2 with ⟨w1,w2,w3,w4,w5,w6,w7⟩|⟨_,_,_,_,_,w6,_⟩
   ·rw[w1,if_pos rfl]at e0
    rw[e0]at hI ⊢
    exact⟨⟨w5,w6 hu.arm⟩,w4,rfl,.inl ⟨h3.2,w3,hI.of_s w2 (by rw[List.length_append,List.length_singleton];omega)⟩⟩
   ·exact absurd hu.arm w6
  ·rw[if_neg h3]at e0
   by_cases h2:f.kind=2∧k.lsn<x.lsn
   ·rw[if_pos h2]at e0
    have hk0:0≤f.keep:=by
     unfold mayFt at hfm
     rw[decide_eq_true_eq]at hfm
     omega
    obtain⟨j1,j2,j3,_,j5⟩:=tearK_inv hk' h.d.arm0 hu.off (by omega) hm hk0
    rcases j5 with ⟨q1,q2,q3⟩|⟨_,_,q3⟩
    ·rw[q1,if_pos rfl]at e0
     rw[e0]at hI ⊢
     exact⟨⟨q2,q3 hu.arm⟩,j3,rfl,.inr ⟨λ_=>hp,j2,none,hI.of_s j1 (by omega)⟩⟩
    ·exact absurd hu.arm q3
   ·rw[if_neg h2]at e0
    rw[e0]at hI ⊢
    exact⟨⟨hu.off,hu.arm⟩,rfl,rfl,.inr ⟨λ_=>hp,rfl,m,hI.of_s hk' (by omega)⟩⟩
def opsOf(l:List PItem):List AOp:=(l.map (·.ops)).flatten
def trI(n:Nat)(l:List PItem):Tr:=((putAll (List.replicate n []) (opsOf l)).1,[],lastL 0 l)
theorem opsOf_append(l l':List PItem):opsOf (l++l')=opsOf l++opsOf l':=by simp[opsOf]
theorem joinL_ops(l:List PItem):(joinL l).ops=opsOf l:=by
 suffices h:∀(l:List PItem) (a:PItem),(l.foldl jn a).ops=a.ops++opsOf l from h l it0
 intro l
 induction l with
 | nil=>intro a;simp[opsOf]
 | cons x l ih=>intro a;rw[List.foldl_cons,ih];simp[jn,opsOf]
theorem trI_append(n:Nat)(l l':List PItem)(h:l'≠[]):trI n (l++l')=((putAll (trI n l).1 (joinL l').ops).1,[],(joinL l').lsn):=by
 unfold trI
 rw[opsOf_append,putAll_append,joinL_ops,joinL_lsn,lastL_append]
 have:lastL (lastL 0 l) l'=lastL 0 l':=by
  cases l' with
  | nil=>exact absurd rfl h
  | cons x r=>rfl
 rw[this]
structure AInv(c:WCf)(tabs:Nat)(s:PWt)(done hd:List PItem)(j f bt:Nat):Prop where
 w:WtInv c tabs s f
 it:∀x∈done++hd++s.L,WIt tabs x
 rise:RiseI 0 (done++hd++s.L)
 hn:hd.length=s.n
 held:s.held=joinL hd
 up:Up s.k
 p:∃xs m,PInv tabs s.k j xs m∧xs.length=bt
 tr:s.k.tr=trI tabs done∨(hd≠[]∧s.k.tr=trI tabs (done++hd))
theorem AInv.put{c:WCf}{tabs:Nat}{s:PWt}{done hd:List PItem}{j f bt:Nat}(h:AInv c tabs s done hd j f bt){x:PItem}(hx:WIt tabs x)(hl:lastL 0 (done++hd++s.L)<x.lsn)(hr:s.L.length+s.out<c.cap):AInv c tabs {s with L:=s.L++[x]} done hd j f bt:=by
 have hra:=h.rise.snoc hl
 have hla:RiseI 0 (s.L++[x]):=by
  rw[List.append_assoc]at hra
  have:=RiseI.append.1 hra
  exact this.2.mono this.1.last
 refine⟨⟨h.w.cap1,h.w.cap,h.w.most1,h.w.most,λy hy=>?_,hla,?_,h.w.out,h.w.held,h.w.f0,h.w.f1⟩,λy hy=>?_,by rw[← List.append_assoc];exact hra,h.hn,h.held,h.up,h.p,h.tr⟩
 ·rcases List.mem_append.1 hy with hy|hy
  ·exact h.w.it y hy
  ·rw[List.mem_singleton.1 hy];exact hx
 ·show (s.L++[x]).length+s.out≤c.cap
  rw[List.length_append,List.length_singleton];omega
 ·rw[← List.append_assoc]at hy
  rcases List.mem_append.1 hy with hy|hy
  ·exact h.it y hy
  ·rw[List.mem_singleton.1 hy];exact hx
theorem AInv.hold{c:WCf}{tabs:Nat}{s:PWt}{done hd:List PItem}{j f bt:Nat}(h:AInv c tabs s done hd j f bt){now:Int}(hr:s.ready now=true):
  ∃hd',AInv c tabs (s.hold c.most) done hd' j f bt∧hd'≠[]∧hd++s.L=hd'++(s.hold c.most).L∧(s.n=0→hd'=s.L.take c.most)∧(s.n≠0→hd'=hd)∧(s.hold c.most).k=s.k∧(s.hold c.most).fails=s.fails∧(s.hold c.most).til=s.til:=by
 obtain⟨hw,hp⟩:=h.w.hold hr
 have hn:=h.hn
 have hit:=h.it
 have hri:=h.rise
 unfold PWt.hold at *
 by_cases h0:s.n=0
 ·rw[if_pos h0]at *
  have hhd:hd=[]:=List.eq_nil_of_length_eq_zero (by omega)
  subst hhd
  have htr:s.k.tr=trI tabs done:=by
   rcases h.tr with h|⟨h,_⟩
   ·exact h
   ·exact absurd rfl h
  have e:done++s.L.take c.most++s.L.drop c.most=done++[]++s.L:=by simp
  have hpn:0<min c.most s.L.length:=hp
  refine⟨s.L.take c.most,⟨hw,by rw[e];exact hit,by rw[e];exact hri,by rw[List.length_take],rfl,h.up,h.p,.inl htr⟩,λh=>?_,by simp,λ_=>rfl,λh=>absurd h0 h,rfl,rfl,rfl⟩
  have:=congrArg List.length h
  rw[List.length_take,List.length_nil]at this
  omega
 ·rw[if_neg h0]at *
  exact⟨hd,h,λh=>by subst h;simp at hn;omega,rfl,λh=>absurd h h0,λ_=>rfl,rfl,rfl,rfl⟩
theorem AInv.step{c:WCf}{tabs:Nat}{s:PWt}{done hd:List PItem}{j f bt:Nat}(h:AInv c tabs s done hd j f bt)(hj:j≤100){now draw:Int}(hr:s.ready now=true):
  ∃hd',hd'≠[]∧hd++s.L=hd'++(s.step c now draw).1.L∧(s.n=0→hd'=s.L.take c.most)∧(s.n≠0→hd'=hd)∧(s.step c now draw).1.k.plan=s.k.plan.drop 1 ∧
   ((s.k.plan=[]∧(s.step c now draw).2=(6,0)∧(s.step c now draw).1.n=0∧(s.step c now draw).1.out=0∧(s.step c now draw).1.fails=0∧∃bt',bt'≤bt+1∧(s.n=0→bt'=bt+1)∧AInv c tabs (s.step c now draw).1 (done++hd') [] (j+1) (f+1) bt') ∨
    (s.k.plan≠[]∧(s.step c now draw).2=(7,0)∧(s.step c now draw).1.n=hd'.length∧(s.step c now draw).1.fails=s.fails+1∧(s.step c now draw).1.til=clkR now+waitB (s.fails+1) c.b c.m c.j draw∧∃bt',AInv c tabs (s.step c now draw).1 done hd' (j+1) (f+1) bt')):=by
 obtain⟨hd',hA,hne,he,hlen,hlen2,hk,hfl,_⟩:=h.hold hr
 have hst:s.step c now draw=(s.hold c.most).hand c now draw:=by unfold PWt.step;rw[if_pos hr]
 have htr0:s.n=0→s.k.tr=trI tabs done:=λh0=>by
  rcases h.tr with h1|⟨h1,_⟩
  ·exact h1
  ·have:=h.hn;exact absurd (List.eq_nil_of_length_eq_zero (by omega)) h1
 have hpos:0<hd'.length:=List.length_pos_iff.2 hne
 have hnn:=hA.hn
 have hw':=hA.w.hand (by omega) now draw
 rw[hst]
 refine⟨hd',hne,?_,hlen,hlen2,?_⟩
 ·rw[he]
  congr 1
  unfold PWt.hand
  split
  ·rfl
  ·split<;>rfl
 rw[← hk]at htr0 ⊢
 rw[← hfl]
 generalize s.hold c.most=s1 at *
 obtain⟨xs,m,hP,hbt⟩:=hA.p
 have hJ:JOk tabs (joinL hd') hd'.length:=by
  have hr1:RiseI 0 hd':=by
   have h1:=(RiseI.append.1 hA.rise).1
   have:=RiseI.append.1 h1
   exact this.2.mono this.1.last
  exact joinL_ok (λx hx=>hA.it x (List.mem_append_left _ (List.mem_append_right _ hx))) hr1
 have h64:hd'.length≤64:=by
  have h1:=hA.w.room
  have h2:=hA.w.out
  have h3:=hA.w.cap
  omega
 obtain⟨hm,ht⟩:=hJ.may hpos h64
 have hq:s1.k.reqs=[]:=by
  rcases hA.tr with h1|⟨_,h1⟩<;>exact congrArg (·.2.1) h1
 have hfit:fitsR tabs s1.k.reqs s1.held=some []:=by rw[hA.held,hq];exact fits_nil hm ht hJ.nts
 obtain⟨u1,u2,u3,u4⟩:=hP.up hj hA.up hfit
 have htr:(s1.k.commitK s1.held).1.tr=trI tabs (done++hd')∨((s1.k.commitK s1.held).1.tr=trI tabs done∧s1.k.plan≠[]):=by
  have hle:lastL 0 done<(joinL hd').lsn:=by
   rw[joinL_lsn]
   have h1:=(RiseI.append.1 (RiseI.append.1 hA.rise).1).2
   cases hd' with
   | nil=>exact absurd rfl hne
   | cons x r=>have:=h1.2.last;have:=h1.1;show _<lastL x.lsn r;omega
  rcases hA.tr with h1|⟨_,h1⟩
  ·have hlsn:s1.k.lsn=lastL 0 done:=congrArg (·.2.2) h1
   have hts:s1.k.ts=(trI tabs done).1:=congrArg (·.1) h1
   rcases u4 with ⟨_,v2,_⟩|⟨v1,v2,_⟩
   ·left;rw[v2,trI_append _ _ _ hne,hts,hA.held]
   ·right;exact⟨by rw[v2,h1],v1 (by rw[hlsn,hA.held];exact hle)⟩
  ·have hlsn:s1.k.lsn=(joinL hd').lsn:=by rw[show s1.k.lsn=lastL 0 (done++hd') from congrArg (·.2.2) h1,joinL_lsn,lastL_append];cases hd' with
    | nil=>exact absurd rfl hne
    | cons x r=>rfl
   rcases u4 with ⟨v1,_⟩|⟨v1,v2,_⟩
   ·rw[hlsn,hA.held]at v1;omega
   ·left;rw[v2,h1]
 have hbt':∃bt',bt'≤bt+1∧(s1.k.tr=trI tabs done→s1.k.plan=[]→bt'=bt+1)∧∃xs m,PInv tabs (s1.k.commitK s1.held).1 (j+1) xs m∧xs.length=bt':=by
  rcases u4 with ⟨_,_,v3⟩|⟨v1,v2,m',v3⟩
  ·exact⟨bt+1,Nat.le_refl _,λ_ _=>rfl,_,_,v3,by rw[List.length_append,List.length_singleton,hbt]⟩
  ·refine⟨bt,by omega,λh1 h2=>?_,_,_,v3,hbt⟩
   rcases htr with h3|⟨_,h3⟩
   ·rw[v2,h1]at h3
    have h4:=congrArg (·.2.2) h3
    have h5:lastL 0 done=lastL 0 (done++hd'):=h4
    rw[lastL_append]at h5
    have h6:=(RiseI.append.1 (RiseI.append.1 hA.rise).1).2
    cases hd' with
    | nil=>exact absurd rfl hne
    | cons x r=>have h7:=h6.2.last;have h8:=h6.1;have h5:lastL 0 done=lastL x.lsn r:=h5;omega
   ·exact absurd h2 h3
 obtain⟨bt',hb1,hb2,hb3⟩:=hbt'
 have hg:giveN s1.n s1.out=s1.n:=by have:=hA.w.out;unfold giveN;omega
 unfold PWt.hand at *
 by_cases hp:s1.k.plan=[]
 ·rw[if_pos hp]at u3
  rw[if_pos u3]at hw' ⊢
  refine⟨u2,.inl ⟨hp,rfl,rfl,?_,rfl,bt',hb1,λh0=>hb2 (htr0 h0) hp,⟨hw',?_,?_,rfl,rfl,u1,hb3,.inl ?_⟩⟩⟩
  ·have:=hA.w.out;show s1.out-giveN s1.n s1.out=0;omega
  ·show ∀x∈done++hd'++[]++s1.L,WIt tabs x
   rw[List.append_nil];exact hA.it
  ·show RiseI 0 (done++hd'++[]++s1.L)
   rw[List.append_nil];exact hA.rise
  ·rcases htr with h|⟨_,h⟩
   ·exact h
   ·exact absurd hp h
 ·rw[if_neg hp]at u3
  rw[if_neg (by rw[u3];decide),if_pos u3]at hw' ⊢
  refine⟨u2,.inr ⟨hp,rfl,hnn.symm,rfl,rfl,bt',⟨hw',hA.it,hA.rise,hnn,hA.held,u1,hb3,?_⟩⟩⟩
  rcases htr with h|⟨h,_⟩
  ·exact .inr ⟨hne,h⟩
  ·exact .inl h
structure PCfg where
 tables:Int
 late:Int
 size:Int
 queue:Int
 chunk:Int
 batch:Int
 base:Int
 most:Int
 jitter:Int
 every:Int
def encCfg(c:PCfg):List Value:=[.int .i64 c.tables,.int .i64 c.late,.int .i64 c.size,.int .i64 c.queue,.int .i64 c.chunk,.int .i64 c.batch,.int .i64 c.base,.int .i64 c.most,.int .i64 c.jitter,.int .i64 c.every]
theorem encCfg_one(c:PCfg):∀v∈encCfg c,v.oneCell'=true:=by simp[encCfg,Value.oneCell']
def cfgSz(j:Nat):Int:=([64,128,256,1024]:List Int)[j]!
theorem cfgSz_at{j:Nat}(h:j<4):([.int .i64 64,.int .i64 128,.int .i64 256,.int .i64 1024]:List Value)[0+j*1]?=some (.int .i64 (cfgSz j)):=by
 match j,h with
 | 0,_=>rfl
 | 1,_=>rfl
 | 2,_=>rfl
 | 3,_=>rfl
theorem cfgSz_in{j:Nat}(h:j<4):64≤cfgSz j∧cfgSz j≤1024:=by
 match j,h with
 | 0,_=>decide
 | 1,_=>decide
 | 2,_=>decide
 | 3,_=>decide
def cfgOf(c:PCfg):PCfg:=
 ⟨1+(md c.tables 4:Int),(md c.late (2 ^ (1+md c.tables 4)):Int),cfgSz (md c.size 4),1+(md c.queue 5:Int),1+(md c.chunk 4:Int),1+(md c.batch 4:Int),1+(md c.base 4:Int),1+(md c.base 4:Int)+(md c.most 12:Int),(md c.jitter 4:Int),1+(md c.every 8:Int)⟩
theorem s_shlK{a:Int}{k:IntKind}{n:Nat}{K:Value→Prop}(hn:n≤60)(hr : -9223372036854775808≤a*2 ^ n∧a*2 ^ n≤9223372036854775807)(h:K (.int .i64 (a*2 ^ n))):zc .shl (.int .i64 a) (.int k (n:Int)) K:=by
 refine⟨.int .i64 (a*2 ^ n),?_,h⟩
 have hmin:min n 64=n:=Nat.min_eq_left (by omega)
 show (if ((n:Nat):Int)<0 then none else some (Value.int .i64 (IntKind.i64.wrap (a*2 ^ (min ((n:Nat):Int).toNat 64)))))=_
 rw[if_neg (by omega),Int.toNat_natCast,hmin,IntWalk.i64_in _ hr]
theorem s_cvU{j:IntKind}{n:Nat}{K:Value→Prop}(hr:n≤9223372036854775807)(h:K (.int .u64 (n:Int))):zI .u64 (.int j (n:Int)) K:=zR (by rw[show IntKind.u64.wrap (n:Int)=n by rw[IntKind.wrap_u64];omega];exact h)
def mz(v n:Int):Int:=(md v n.toNat:Int)
theorem modZ(v n:Int)(h:0<n∧n≤9223372036854775807):Spec Tryz.prog 29 [.int .i64 v,.int .i64 n] [] (Gives (.int .i64 (mz v n)) []):=by
 have:=yn v n.toNat (by omega) (by omega)
 rw[show ((n.toNat:Nat):Int)=n by omega]at this
 exact this
theorem s_idxZ{b o len cap sz:Nat}{k:IntKind}{j:Int}{K:Value→Prop}(h0:0≤j)(hj:j<len)(h:K (.pointer (some ⟨b,o+j.toNat*sz,none⟩))):zk sz (.slice (some ⟨b,o,none⟩) len cap) (.int k j) K:=by
 obtain⟨m,rfl⟩:∃m:Nat,j=m:=⟨j.toNat,by omega⟩
 rw[Int.toNat_natCast]at h
 exact zA (by omega) h
theorem cfgSzZ{j:Int}(h0:0≤j)(h:j<4):([.int .i64 64,.int .i64 128,.int .i64 256,.int .i64 1024]:List Value)[0+j.toNat*1]?=some (.int .i64 (cfgSz j.toNat)):=cfgSz_at (by omega)
set_option maxHeartbeats 4000000 in
theorem Zn(c:PCfg):Spec Tryz.prog 55 [agg (encCfg c)] [] (Gives (agg (encCfg (cfgOf c))) []):=by
 intro W F w hS;apply vc55;unfold Vc55;(try simp only[app]at hS)
 refine zD hS λcb w hS=>?_
 unfold encCfg at hS
 refine Gb λxb w hS=>?_
 obtain⟨ct,cl,cs,cq,cc,cba,cb0,cm,cj,ce⟩:=c
 simp only at hS
 have h1:=md_lt ct 4 (by decide)
 have h2:=md_lt cs 4 (by decide)
 have h3:=md_lt cq 5 (by decide)
 have h4:=md_lt cc 4 (by decide)
 have h5:=md_lt cba 4 (by decide)
 have h6:=md_lt cb0 4 (by decide)
 have h7:=md_lt cm 12 (by decide)
 have h8:=md_lt cj 4 (by decide)
 have h9:=md_lt ce 8 (by decide)
 have g1:0≤mz ct 4∧mz ct 4<4:=⟨Int.natCast_nonneg _,by show (md ct 4:Int)<4;omega⟩
 have g2:0≤mz cs 4:=Int.natCast_nonneg _
 have g2':mz cs 4<((4:Nat):Int):=by show (md cs 4:Int)<4;omega
 have g2'':mz cs 4<4:=g2'
 have g3:0≤mz cq 5∧mz cq 5<5:=⟨Int.natCast_nonneg _,by show (md cq 5:Int)<5;omega⟩
 have g4:0≤mz cc 4∧mz cc 4<4:=⟨Int.natCast_nonneg _,by show (md cc 4:Int)<4;omega⟩
 have g5:0≤mz cba 4∧mz cba 4<4:=⟨Int.natCast_nonneg _,by show (md cba 4:Int)<4;omega⟩
 refine⟨λus w=>∃yb:Nat,us=[.pointer (some ⟨yb,0,none⟩)]∧SL W (.pt yb [.int .i64 (1+mz ct 4),.int .i64 0,.int .i64 (cfgSz (mz cs 4).toNat),.int .i64 (1+mz cq 5),.int .i64 (1+mz cc 4),.int .i64 (1+mz cba 4),.int .i64 0,.int .i64 0,.int .i64 0,.int .i64 0] 109 ::
   .pt xb [.int .i64 0,.int .i64 0,.int .i64 0,.int .i64 0,.int .i64 0,.int .i64 0,.int .i64 0,.int .i64 0,.int .i64 0,.int .i64 0] 109::.pt cb [.int .i64 ct,.int .i64 cl,.int .i64 cs,.int .i64 cq,.int .i64 cc,.int .i64 cba,.int .i64 cb0,.int .i64 cm,.int .i64 cj,.int .i64 ce] 109::F) w,?_,?_⟩
 ·repeat' (first
   | refine Gp ?_
   | refine Gw λw hS=>?_
   | refine Gb λb w hS=>?_
   | ((with_reducible refine ze (modZ _ _ (by decide)) hS (.nil) ?_);clear hS;(rintro v post ⟨rfl,rfl⟩ w hS);(try simp only[app]at hS))
   | (with_reducible refine s_idxZ (by assumption) (by assumption) ?_)
   | (with_reducible refine zW hS (t:=3) Xh (cfgSzZ (by assumption) (by assumption)) ?_)
   | with_reducible refine And.intro ?_ ?_
   | exact⟨_,rfl,SL.into hS Xi⟩)
 ·clear hS
  rintro _ w ⟨yb,hus,hS⟩
  cases hus
  clear g1 g2 g2' g2'' g3 g4 g5
  have hS:SL W (.pt yb [.int .i64 (1+(md ct 4:Int)),.int .i64 0,.int .i64 (cfgSz (md cs 4)),.int .i64 (1+(md cq 5:Int)),.int .i64 (1+(md cc 4:Int)),.int .i64 (1+(md cba 4:Int)),.int .i64 0,.int .i64 0,.int .i64 0,.int .i64 0] 109::_) w:=hS
  repeat first|refine Gp ?_|refine Gw λw hS=>?_|refine Gb λb w hS=>?_
  rw[show (1:Int)+(md ct 4:Int)=((1+md ct 4:Nat):Int) by omega]at hS ⊢
  refine s_cvU (by omega) ?_
  have hp:2 ^ (1+md ct 4)≤16:=Nat.pow_le_pow_right (by decide) (show 1+md ct 4≤4 by omega)
  have hp0:0<2 ^ (1+md ct 4):=Nat.pow_pos (by decide)
  have hpe:(1:Int)*2 ^ (1+md ct 4)=((2 ^ (1+md ct 4):Nat):Int):=by simp
  refine s_shlK (by omega) (by rw[hpe];omega) ?_
  rw[hpe]
  have hml:=md_lt cl (2 ^ (1+md ct 4)) hp0
  have e:cfgOf ⟨ct,cl,cs,cq,cc,cba,cb0,cm,cj,ce⟩=⟨((1+md ct 4:Nat):Int),(md cl (2 ^ (1+md ct 4)):Int),cfgSz (md cs 4),1+(md cq 5:Int),1+(md cc 4:Int),1+(md cba 4:Int),1+(md cb0 4:Int),1+(md cb0 4:Int)+(md cm 12:Int),(md cj 4:Int),1+(md ce 8:Int)⟩:=by
   unfold cfgOf
   simp only
   rw[show (1:Int)+(md ct 4:Int)=((1+md ct 4:Nat):Int) by omega]
  rw[e]
  generalize hP:2 ^ (1+md ct 4)=P at *
  (apply ze (yn cl P hp0 (by omega)) hS;exact Xp;clear hS)
  (rintro v post ⟨rfl,rfl⟩ w hS;(try simp only[app]at hS);(repeat (first|refine Gp ?_|refine Gw λw hS=>?_|refine Gb λb w hS=>?_)))
  (apply ze (zV cb0 4 (by decide) (by decide)) hS;exact Xp;clear hS)
  (rintro v post ⟨rfl,rfl⟩ w hS;(try simp only[app]at hS);(repeat (first|refine Gp ?_|refine Gw λw hS=>?_|refine Gb λb w hS=>?_)))
  (apply ze (zV cm 12 (by decide) (by decide)) hS;exact Xp;clear hS)
  (rintro v post ⟨rfl,rfl⟩ w hS;(try simp only[app]at hS);(repeat (first|refine Gp ?_|refine Gw λw hS=>?_|refine Gb λb w hS=>?_)))
  (apply ze (zV cj 4 (by decide) (by decide)) hS;exact Xp;clear hS)
  (rintro v post ⟨rfl,rfl⟩ w hS;(try simp only[app]at hS);(repeat (first|refine Gp ?_|refine Gw λw hS=>?_|refine Gb λb w hS=>?_)))
  (apply ze (zV ce 8 (by decide) (by decide)) hS;exact Xp;clear hS)
  (rintro v post ⟨rfl,rfl⟩ w hS;(try simp only[app]at hS);(repeat (first|refine Gp ?_|refine Gw λw hS=>?_|refine Gb λb w hS=>?_)))
  (exact⟨_,⟨rfl,rfl⟩,SL.into hS Xi⟩)
structure DPs where
 xb:Nat
 w:WPs
 r:RPs
abbrev dkcells(p:DPs)(lsn:Int):List Value:=[ptrO p.w.dp,ptrO p.w.kp,ptrO p.w.qp,ptrO p.w.rp,ptrO p.w.wp,ptrO p.r.xp,ptrO p.r.yp,.int .i64 lsn]
abbrev DeskP(p:DPs)(lsn:Int):Chunk:=.pt p.xb (dkcells p lsn) 117
theorem own_sl{W w:World}{l:List Chunk}{v:Value}{t:TypeId}{sz n:Nat}{cells:List Value}(h:SL W l w)(m:Has (.ob (OwnSl v t sz n cells)) l):∃a n c,v= .slice a n c:=by
 obtain⟨a,cap,e,_⟩:=OwnSl.at h m
 exact⟨a,n,cap,e⟩
def PWt.put(s:PWt)(cap:Nat)(t:PItem):PWt:=if s.L.length+s.out<cap then {s with L:=s.L++[t]} else s
theorem map_len(L:List PItem):(L.map strI).length=L.length:=List.length_map ..
theorem map_snoc(L:List PItem)(x:PItem):L.map strI++[strI x]=(L++[x]).map strI:=by simp
theorem yG(p:DPs)(c:WCf)(H:Heap)(s:PWt)(lsn:Int)(x:ItV)(t:PItem)(hx:ItIs H x t)(hm:mayItem t=true){tabs f:Nat}(hI:WtInv c tabs s f):
  Spec Tryz.prog 52 [ptrO p.xb,agg (encIt x)] [DeskP p lsn,.ob (WrO p.w c H s),.ob (RWrO p.r c H s),.mem H] (λv post=>v= .bool true∧∃H',H.le H'∧post=[DeskP p (if s.L.length+s.out<c.cap then t.lsn else lsn),.ob (WrO p.w c H' (s.put c.cap t)),.ob (RWrO p.r c H' (s.put c.cap t)),.mem H']):=by
 intro W F w hS;apply vc52;unfold Vc52;(try simp only[app]at hS)
 have hcap:=hI.cap
 have hroom:=hI.room
 refine zD hS λib w hS=>?_
 refine zC hS Xh rfl ?_
 (apply ze (Z3 H x t hx) hS;exact Xp;clear hS)
 rintro r post hqe w hS
 unfold EncIQ at hqe
 rw[bytesItem_ok hm]at hqe
 obtain⟨bv,rfl,rfl⟩:=hqe
 (try simp only[app]at hS)
 have ex:encIt x=[.int .i64 t.lsn,x.ov,x.nv]:=by unfold encIt;rw[hx.lsn]
 rw[ex]at hS
 repeat first|refine Gp ?_|refine Gw λw hS=>?_|refine Gb λb w hS=>?_
 refine zf (λh=>absurd rfl h) (λ_=>?_)
 obtain⟨ov,nv,hi,hS⟩:=WrO.open hS Xr
 obtain⟨rov,rnv,gv,⟨hri,hrg⟩,hS⟩:=RWrO.open hS Xr
 have hcv:∀{w:World} {l:List Chunk} {K:Value→Prop},SL W l w→Has (.ob (OwnSl bv 5 1 (bytesItem t).length ((bytesItem t).map u8c))) l→K (.string (strI t))→HRq Tryz.prog (convert 54 9 bv) w K:=λhS m h=>
  yH (own_sl hS m) (src_own hS m) Tryz.underlying54 Tryz.underlying9 Tryz.underlying5 h
 repeat first|refine Gp ?_|refine Gw λw hS=>?_|refine Gb λb w hS=>?_
 refine hcv hS Xh ?_
 repeat first|refine Gp ?_|refine Gw λw hS=>?_|refine Gb λb w hS=>?_
 refine hcv hS Xh ?_
 by_cases hr:s.L.length+s.out<c.cap
 ·have hput:s.put c.cap t={s with L:=s.L++[t]}:=by unfold PWt.put;rw[if_pos hr]
  rw[hput,if_pos hr]
  (apply ze (gpush_yes p.w.qp p.w.qb c.cap s.out (s.L.map strI) (strI t) (by rw[map_len];exact hr)) hS;exact Xp;clear hS)
  (rintro v post ⟨rfl,rfl⟩ w hS;(try simp only[app]at hS);(repeat (first|refine Gp ?_|refine Gw λw hS=>?_|refine Gb λb w hS=>?_)))
  refine hcv hS Xh ?_
  repeat first|refine Gp ?_|refine Gw λw hS=>?_|refine Gb λb w hS=>?_
  rw[show c.cap-s.L.length-s.out=(c.cap-s.L.length-s.out-1)+1 by omega]at hS
  (apply ze (rpush_yes H p.r.qp c.cap (c.cap-s.L.length-s.out-1) s.out gv (s.L.map strI) (strI t) hrg (by rw[map_len];omega) (by omega)) hS;exact Xp;clear hS)
  rintro _ post ⟨H1,gv2,rfl,h01,hg2,rfl⟩ w hS
  (try simp only[app]at hS)
  repeat first|refine Gp ?_|refine Gw λw hS=>?_|refine Gb λb w hS=>?_
  rw[decide_eq_true rfl]
  rw[map_snoc]at hS hg2
  have hS:=SnkO.monoP h01 hS Xr
  have hS:=RSnkO.monoP h01 hS Xr
  have hS:=WrO.putN (p:=p.w) (c:=c) (held:=s.held) hS (hi.mono h01) Xp
  have hS:=RWrO.putN (p:=p.r) (c:=c) (held:=s.held) hS (hri.mono h01) hg2 Xp (by rw[List.length_append,List.length_singleton];omega)
  exact⟨_,⟨rfl,H1,h01,rfl⟩,SL.into hS Xi⟩
 ·have hput:s.put c.cap t=s:=by unfold PWt.put;rw[if_neg hr]
  rw[hput,if_neg hr]
  (apply ze (gpush_no p.w.qp p.w.qb c.cap s.out (s.L.map strI) (strI t) (by rw[map_len];omega)) hS;exact Xp;clear hS)
  (rintro v post ⟨rfl,rfl⟩ w hS;(try simp only[app]at hS);(repeat (first|refine Gp ?_|refine Gw λw hS=>?_|refine Gb λb w hS=>?_)))
  refine hcv hS Xh ?_
  repeat first|refine Gp ?_|refine Gw λw hS=>?_|refine Gb λb w hS=>?_
  rw[show c.cap-s.L.length-s.out=0 by omega]at hS
  (apply ze (rpush_no p.r.qp c.cap s.out gv (strI t)) hS;exact Xp;clear hS)
  (rintro v post ⟨rfl,rfl⟩ w hS;(try simp only[app]at hS);(repeat (first|refine Gp ?_|refine Gw λw hS=>?_|refine Gb λb w hS=>?_)))
  rw[decide_eq_true rfl]
  have hS:=WrO.put (p:=p.w) (c:=c) s hS hi Xp
  have hS:=RWrO.putN (p:=p.r) (c:=c) (k:=s.k) (held:=s.held) hS hri hrg Xp (by omega)
  have hS:SL W (.ob (RWrO p.r c H s)::_) _:=hS
  exact⟨_,⟨rfl,H,Heap.le_refl H,rfl⟩,SL.into hS Xi⟩
theorem WtInv.hlen{c:WCf}{tabs f:Nat}{s:PWt}(h:WtInv c tabs s f):s.held.ops.length≤4096∧s.held.notes.length≤256:=by
 rcases h.held with ⟨_,h1⟩|⟨h1,_⟩
 ·rw[h1];exact⟨by decide,by decide⟩
 ·have:=(mayItem_iff.1 (h.iok h1).1).1
  exact⟨this.2.2.1,this.2.2.2⟩
structure CfgOk(c:PCfg)(k:WCf)(n:Nat):Prop where
 n1:1≤n
 n8:n≤8
 tables:c.tables=n
 s0:64≤c.size
 s1:c.size≤65536
 queue:c.queue=k.cap
 q1:1≤k.cap
 q64:k.cap≤64
 batch:c.batch=k.most
 b1:1≤k.most
 b64:k.most≤64
 base:c.base=k.b
 cm:c.most=k.m
 jit:c.jitter=k.j
 may:MayB k.b k.m k.j
def s0W(k:PSink):PWt:=⟨k,[],0,0,0,it0,0⟩
theorem desk_new{W w:World}{l F:List Chunk}{H H2:Heap}{k:WCf}{k0:PSink}{wp kp gp dp lp pp qp qb rp yp rkp xp rlp rrp rqp rr xb:Nat}(hS:SL W l w)
  (q:Into (.pt xb [ptrO dp,ptrO kp,ptrO qp,ptrO rp,ptrO wp,ptrO xp,ptrO yp,.int .i64 0] 117::.pt wp (wtcells kp qp rp k.most 0 (.slice none 0 0) (.slice none 0 0) 0) 236::.ob (SnkO kp gp dp lp pp H2 k0)::.ob (Gate qp qb k.cap 0 [])::RtP rp k.b k.m k.j 0 0 ::
   .pt yp [ptrO rkp,ptrO rqp,ptrO rr,.int .i64 (k.most:Int),.int .i64 0,.slice none 0 0,.slice none 0 0,.int .i64 0] 140::.ob (RSnkO rkp xp rlp rrp H2 k0)::RG rqp k.cap k.cap 0 (.slice none 0 0)::.pt rr [.int .i64 k.b,.int .i64 k.m,.int .i64 k.j,.int .i64 0,.int .i64 0] 232::.mem H2::F) l) (hh:H.le H2) :
  ∃post,(∃(p:DPs) (H':Heap),H.le H'∧ptrO xb=ptrO p.xb∧post=[DeskP p 0,.ob (WrO p.w k H' (s0W k0)),.ob (RWrO p.r k H' (s0W k0)),.mem H'])∧SL W (app post F) w:=by
 have hS:=hS.into q
 have hS:SL W (.pt xb [ptrO dp,ptrO kp,ptrO qp,ptrO rp,ptrO wp,ptrO xp,ptrO yp,.int .i64 0] 117::.pt wp (wtcells kp qp rp k.most it0.lsn (.slice none 0 0) (.slice none 0 0) 0) 236::.ob (SnkO kp gp dp lp pp H2 k0)::.ob (Gate qp qb k.cap 0 (([]:List PItem).map strI))::RtP rp k.b k.m k.j 0 0 ::
   .pt yp (wtcells rkp rqp rr k.most it0.lsn (.slice none 0 0) (.slice none 0 0) 0) 140::.ob (RSnkO rkp xp rlp rrp H2 k0)::RG rqp k.cap k.cap 0 (.slice none 0 0)::RRtP rr k.b k.m k.j 0 0::.mem H2::F) w:=hS
 have hS:=WrO.putN (p:=⟨wp,kp,gp,dp,lp,pp,qp,qb,rp⟩) (c:=k) (H:=H2) (k:=k0) (L:=[]) (out:=0) (held:=it0) (n:=0) (ov:=.slice none 0 0) (nv:=.slice none 0 0) hS ⟨rfl,RdSl.nil _ _,RdSl.nil _ _⟩ Xp
 have hS:=RWrO.putN (p:=⟨yp,rkp,xp,rlp,rrp,rqp,rr⟩) (c:=k) (H:=H2) (k:=k0) (L:=[]) (cr:=k.cap) (out:=0) (held:=it0) (n:=0) (ov:=.slice none 0 0) (nv:=.slice none 0 0) (gv:=.slice none 0 0) hS ⟨rfl,RdSl.nil _ _,RdSl.nil _ _⟩ (RdSl.nil _ _) Xp rfl
 have hS:SL W (.ob (RWrO ⟨yp,rkp,xp,rlp,rrp,rqp,rr⟩ k H2 (s0W k0))::.ob (WrO ⟨wp,kp,gp,dp,lp,pp,qp,qb,rp⟩ k H2 (s0W k0))::DeskP ⟨xb,⟨wp,kp,gp,dp,lp,pp,qp,qb,rp⟩,⟨yp,rkp,xp,rlp,rrp,rqp,rr⟩⟩ 0::.mem H2::F) w:=hS
 exact⟨_,⟨⟨xb,⟨wp,kp,gp,dp,lp,pp,qp,qb,rp⟩,⟨yp,rkp,xp,rlp,rrp,rqp,rr⟩⟩,H2,hh,rfl,rfl⟩,SL.into hS Xi⟩
theorem yi(H:Heap)(c:PCfg)(k:WCf)(n:Nat)(hc:CfgOk c k n)(k0:PSink)(ho:openK s00 ((n:Nat):Int) c.size=(k0.d,.ok k0))(he:∀d' g,openG s00 8192 c.size=(d',.ok g)→(entsG g.segs).length≤200):
  Spec Tryz.prog 49 [agg (encCfg c)] [.mem H] (λv post=>∃(p:DPs) (H':Heap),H.le H'∧v=ptrO p.xb∧post=[DeskP p 0,.ob (WrO p.w k H' (s0W k0)),.ob (RWrO p.r k H' (s0W k0)),.mem H']):=by
 obtain⟨ct,cl,cs,cq,cc,cba,cb0,cm,cj,ce⟩:=c
 obtain⟨c1,c2,c3,c4,c5,c6,c7,c8,c9,c10,c11,c12,c13,c14,c15⟩:=hc
 simp only at c3 c4 c5 c6 c9 c12 c13 c14 he ho
 subst c3 c6 c9 c12 c13 c14
 intro W F w hS;apply vc49;unfold Vc49;(try simp only[app]at hS)
 refine zD hS λcb w hS=>?_
 unfold encCfg at hS
 (apply ze (qY) hS;exact Xp;clear hS)
 rintro _ post ⟨dp,rfl,rfl⟩ w hS
 (try simp only[app]at hS)
 repeat first|refine Gp ?_|refine Gw λw hS=>?_|refine Gb λb w hS=>?_
 refine zD hS λxp w hS=>?_
 have hS:=RDO.new (H:=H) hS
 repeat first|refine Gp ?_|refine Gw λw hS=>?_|refine Gb λb w hS=>?_
 refine zD hS λxb w hS=>?_
 have hS:SL W (.pt xb [ptrO dp,.pointer none,.pointer none,.pointer none,.pointer none,ptrO xp,.pointer none,.int .i64 0] 117::_) w:=hS
 repeat first|refine Gp ?_|refine Gw λw hS=>?_|refine Gb λb w hS=>?_
 refine zr ?_
 repeat first|refine Gp ?_|refine Gw λw hS=>?_|refine Gb λb w hS=>?_
 (apply ze (qw H dp s00 n cs (s00_ok 0) (by decide) (by decide) he) hS;exact Xp;clear hS)
 rw[ho]
 rintro r post ⟨kp,gp,lp,pp,H1,h01,rfl,rfl⟩ w hS
 (try simp only[app]at hS)
 repeat first|refine Gp ?_|refine Gw λw hS=>?_|refine Gb λb w hS=>?_
 (apply ze (gnew_ok k.cap c7 c8) hS;exact Xp;clear hS)
 rintro _ post ⟨qp,qb,rfl,rfl⟩ w hS
 (try simp only[app]at hS)
 repeat first|refine Gp ?_|refine Gw λw hS=>?_|refine Gb λb w hS=>?_
 (apply ze (qT k.b k.m k.j) hS;exact Xp;clear hS)
 rintro r post hq w hS
 rw[if_pos c15]at hq
 obtain⟨rp,rfl,rfl⟩:=hq
 (try simp only[app]at hS)
 repeat first|refine Gp ?_|refine Gw λw hS=>?_|refine Gb λb w hS=>?_
 refine zr ?_
 repeat first|refine Gp ?_|refine Gw λw hS=>?_|refine Gb λb w hS=>?_
 refine zr ?_
 repeat first|refine Gp ?_|refine Gw λw hS=>?_|refine Gb λb w hS=>?_
 refine zr ?_
 repeat first|refine Gp ?_|refine Gw λw hS=>?_|refine Gb λb w hS=>?_
 (apply ze (yD kp gp dp lp pp H1 k0) hS;exact Xp;clear hS)
 (rintro v post ⟨rfl,rfl⟩ w hS;(try simp only[app]at hS);(repeat (first|refine Gp ?_|refine Gw λw hS=>?_|refine Gb λb w hS=>?_)))
 refine zr ?_
 repeat first|refine Gp ?_|refine Gw λw hS=>?_|refine Gb λb w hS=>?_
 (apply ze (wnew_ok kp qp rp k.most c10 c11) hS;exact Xp;clear hS)
 rintro _ post ⟨wp,rfl,rfl⟩ w hS
 (try simp only[app]at hS)
 repeat first|refine Gp ?_|refine Gw λw hS=>?_|refine Gb λb w hS=>?_
 refine zr ?_
 have hS:=RDO.monoP h01 hS Xr
 repeat first|refine Gp ?_|refine Gw λw hS=>?_|refine Gb λb w hS=>?_
 (apply ze (Yv H1 xp s00 n cs (s00_ok 0) (by decide) (by decide) he) hS;exact Xp;clear hS)
 rw[ho]
 rintro r post ⟨rkp,rlp,rrp,H2,h12,rfl,rfl⟩ w hS
 (try simp only[app]at hS)
 repeat first|refine Gp ?_|refine Gw λw hS=>?_|refine Gb λb w hS=>?_
 have hS:=SnkO.monoP h12 hS Xr
 refine⟨?_,?_⟩
 ·(apply ze (rgnew_ok k.cap c7 c8) hS;exact Xp;clear hS)
  rintro _ post ⟨rqp,rfl,rfl⟩ w hS
  (try simp only[app]at hS)
  repeat first|refine Gp ?_|refine Gw λw hS=>?_|refine Gb λb w hS=>?_
  refine zD hS λrr w hS=>?_
  repeat first|refine Gp ?_|refine Gw λw hS=>?_|refine Gb λb w hS=>?_
  refine zD hS λyp w hS=>?_
  repeat first|refine Gp ?_|refine Gw λw hS=>?_|refine Gb λb w hS=>?_
  exact desk_new hS Xi (Heap.le_trans h01 h12)
 ·refine zD hS λrr w hS=>?_
  repeat first|refine Gp ?_|refine Gw λw hS=>?_|refine Gb λb w hS=>?_
  (apply ze (rgnew_ok k.cap c7 c8) hS;exact Xp;clear hS)
  rintro _ post ⟨rqp,rfl,rfl⟩ w hS
  (try simp only[app]at hS)
  repeat first|refine Gp ?_|refine Gw λw hS=>?_|refine Gb λb w hS=>?_
  refine zD hS λyp w hS=>?_
  repeat first|refine Gp ?_|refine Gw λw hS=>?_|refine Gb λb w hS=>?_
  exact desk_new hS Xi (Heap.le_trans h01 h12)
theorem AInv.first{c:WCf}{n:Nat}{k:PSink}(h:PInv n k 0 [] none)(hd:k.d=s00)(h1:1≤c.cap)(h2:c.cap≤64)(h3:1≤c.most)(h4:c.most≤64):AInv c n (s0W k) [] [] 0 0 0:=
 ⟨⟨h1,h2,h3,h4,λx hx=>(by cases hx),trivial,Nat.zero_le _,rfl,.inl ⟨rfl,rfl⟩,Int.le_refl _,Int.le_refl _⟩,λx hx=>(by cases hx),trivial,rfl,rfl,⟨by show k.d.off=false;rw[hd];rfl,by show k.d.arm=0;rw[hd];rfl⟩,⟨[],none,h,rfl⟩,.inl h.tr0⟩
theorem AInv.push{c:WCf}{n:Nat}{s:PWt}{done hd:List PItem}{j f bt:Nat}(h:AInv c n s done hd j f bt){x:PFt}(hx:mayFt x=true)(hk:x.keep≤9223372036854775807):AInv c n {s with k:={s.k with plan:=s.k.plan++[x]}} done hd (j+1) f bt:=by
 obtain⟨xs,m,hP,hb⟩:=h.p
 exact⟨⟨h.w.cap1,h.w.cap,h.w.most1,h.w.most,h.w.it,h.w.rise,h.w.room,h.w.out,h.w.held,h.w.f0,h.w.f1⟩,h.it,h.rise,h.hn,h.held,⟨h.up.off,h.up.arm⟩,⟨xs,m,hP.push hx hk,hb⟩,h.tr⟩
theorem AInv.kok{c:WCf}{n:Nat}{s:PWt}{done hd:List PItem}{j f bt:Nat}(h:AInv c n s done hd j f bt)(hj:j≤100)(n8:n≤8):KOk s.k (1000000*(j+1)) 100:=by
 obtain⟨xs,m,hP,_⟩:=h.p
 exact hP.kok hj n8
theorem yY(p:WPs)(H:Heap)(k:PSink)(f:PFt)(v:Value)(hv:RdFt H v [f])(hf:mayFt f=true)(hl:k.plan.length+1≤1024):
  Spec Tryz.prog 40 [ptrO p.pp,v] [.ob (SnkO p.kp p.gp p.dp p.lp p.pp H k),.mem H] (Gives (.int .i64 1) [.ob (SnkO p.kp p.gp p.dp p.lp p.pp H {k with plan:=k.plan++[f]}),.mem H]):=by
 intro W F w hS
 have hS:SL W (.ob (SnkO p.kp p.gp p.dp p.lp p.pp H k)::.mem H::F) w:=hS
 obtain⟨rv,hr,hS⟩:=SnkO.open (k:=k) hS Xr
 have hpu:=pushed (p:=k.plan) hf (by omega)
 have hone:(((pushFt k.plan [f]).length-k.plan.length:Nat):Int)=1:=by rw[hpu,List.length_append,List.length_singleton];omega
 (apply ze (YW H p.pp k.plan [f] v hv (by simp) (by omega)) hS;exact Xp;clear hS)
 rintro _ post ⟨rfl,rfl⟩ w hS
 (try simp only[app]at hS)
 rw[hone]
 rw[hpu]at hS
 have hS:=SnkO.putN (H:=H) (reqs:=k.reqs) hS hr Xp
 exact⟨_,⟨rfl,rfl⟩,SL.into hS Xi⟩
def it29(n:Int):PItem:=⟨n,[],[]⟩
theorem it29_may{n:Int}(h1:1≤n)(h2:n≤1099511627776):mayItem (it29 n)=true:=mayItem_iff.2 ⟨⟨h1,h2,Nat.zero_le _,Nat.zero_le _⟩,by simp[it29],by simp[it29]⟩
theorem it29_wit{n:Int}(h1:1≤n)(h2:n≤1099511627776)(k:Nat):WIt k (it29 n):=⟨it29_may h1 h2,rfl,Nat.zero_le _,rfl⟩
theorem it29_is(H:Heap)(n:Int):ItIs H ⟨n,.slice none 0 0,.slice none 0 0⟩ (it29 n):=⟨rfl,RdSl.nil _ _,RdSl.nil _ _⟩
def awc:WCf:=⟨2,2,1,4,0⟩
theorem yj:Spec Tryz.prog 51 [] [] (Gives (.bool true) []):=by
 intro W F w hS;apply vc51;unfold Vc51;(try simp only[app]at hS)
 have hS:=SL.memNil hS
 generalize Heap.emp=H at hS
 obtain⟨k0,ho,hI0,hp0,hd0,hl0,he0⟩:=PInv.first (n:=1) (by decide) (by decide) (size:=64) (by decide) (by decide)
 refine Zq rfl ?_
 (apply ze (yi H ⟨1,0,64,2,0,2,1,4,0,0⟩ awc 1 ⟨by decide,by decide,rfl,by decide,by decide,rfl,by decide,by decide,rfl,by decide,by decide,rfl,rfl,rfl,by decide⟩ k0 ho he0) hS;exact Xp;clear hS)
 rintro _ post ⟨p,H1,h01,rfl,rfl⟩ w hS
 (try simp only[app]at hS)
 repeat first|refine Gp ?_|refine Gw λw hS=>?_|refine Gb λb w hS=>?_
 refine zr ?_
 have hA:=AInv.first (c:=awc) hI0 hd0 (by decide) (by decide) (by decide) (by decide)
 repeat first|refine Gp ?_|refine Gw λw hS=>?_|refine Gb λb w hS=>?_
 (apply ze (yG p awc H1 (s0W k0) 0 _ (it29 1) (it29_is H1 1) (it29_may (by decide) (by decide)) hA.w) hS;exact Xp;clear hS)
 rintro _ post ⟨rfl,H2,h12,rfl⟩ w hS
 (try simp only[app]at hS)
 repeat first|refine Gp ?_|refine Gw λw hS=>?_|refine Gb λb w hS=>?_
 refine zr ?_
 have hA1:=hA.put (it29_wit (n:=1) (by decide) (by decide) 1) (by show (0:Int)<1;decide) (by show 0+0<2;decide)
 have e1:(s0W k0).put awc.cap (it29 1)={s0W k0 with L:=(s0W k0).L++[it29 1]}:=by unfold PWt.put;rw[if_pos (by show 0+0<2;decide)]
 rw[e1]at hS
 generalize hs1:({s0W k0 with L:=(s0W k0).L++[it29 1]}:PWt)=s1 at *
 have l1:s1.L=[it29 1]:=by rw[← hs1];rfl
 have o1:s1.out=0∧s1.n=0∧s1.k=k0∧s1.fails=0:=by rw[← hs1];exact⟨rfl,rfl,rfl,rfl⟩
 obtain⟨o1,n1,k1,f1⟩:=o1
 repeat first|refine Gp ?_|refine Gw λw hS=>?_|refine Gb λb w hS=>?_
 (apply ze (yG p awc H2 s1 _ _ (it29 4) (it29_is H2 4) (it29_may (by decide) (by decide)) hA1.w) hS;exact Xp;clear hS)
 rintro _ post ⟨rfl,H3,h23,rfl⟩ w hS
 (try simp only[app]at hS)
 repeat first|refine Gp ?_|refine Gw λw hS=>?_|refine Gb λb w hS=>?_
 refine zr ?_
 have hA2:=hA1.put (it29_wit (n:=4) (by decide) (by decide) 1) (by rw[l1];decide) (by rw[l1,o1];decide)
 have e2:s1.put awc.cap (it29 4)={s1 with L:=s1.L++[it29 4]}:=by unfold PWt.put;rw[if_pos (by rw[l1,o1];decide)]
 rw[e2]at hS
 generalize hs2:({s1 with L:=s1.L++[it29 4]}:PWt)=s2 at *
 have l2:s2.L=[it29 1,it29 4]:=by rw[← hs2];show s1.L++_=_;rw[l1];rfl
 have o2:s2.out=0∧s2.n=0∧s2.k=k0∧s2.fails=0:=by rw[← hs2];exact⟨o1,n1,k1,f1⟩
 obtain⟨o2,n2,k2,f2⟩:=o2
 clear hs1 hs2 e1 e2 l1 o1 n1 k1 f1 hA hA1
 obtain⟨ov,nv,hi,hS⟩:=WrO.open hS Xr
 repeat first|refine Gp ?_|refine Gw λw hS=>?_|refine Gb λb w hS=>?_
 (apply ze (yD p.w.kp p.w.gp p.w.dp p.w.lp p.w.pp H3 s2.k) hS;exact Xp;clear hS)
 (rintro v post ⟨rfl,rfl⟩ w hS;(try simp only[app]at hS);(repeat (first|refine Gp ?_|refine Gw λw hS=>?_|refine Gb λb w hS=>?_)))
 have hS:=OwnSl.full (n:=1) (sz:=2) (cells:=(([⟨1,0⟩]:List PFt).map encFt).flatten) (t:=48) rfl hS
 obtain⟨H4,h34,hR2,hS⟩:=zN (H:=H3) hS Xp
 have hS:=SnkO.monoP h34 hS Xr
 (apply ze (yY p.w H4 s2.k ⟨1,0⟩ _ hR2 (by decide) (by rw[k2,hp0];decide)) hS;exact Xp;clear hS)
 (rintro v post ⟨rfl,rfl⟩ w hS;(try simp only[app]at hS);(repeat (first|refine Gp ?_|refine Gw λw hS=>?_|refine Gb λb w hS=>?_)))
 refine zf (λh=>absurd rfl h) (λ_=>?_)
 have hA3:=hA2.push (x:=⟨1,0⟩) (by decide) (by decide)
 have hS:=WrO.putN (p:=p.w) (c:=awc) (held:=s2.held) hS (hi.mono h34) Xp
 have hS:SL W (.ob (WrO p.w awc H4 {s2 with k:={s2.k with plan:=s2.k.plan++[⟨1,0⟩]}})::_) w:=hS
 generalize hs3:({s2 with k:={s2.k with plan:=s2.k.plan++[⟨1,0⟩]}}:PWt)=s3 at *
 have l3:s3.L.length=2:=by rw[← hs3];show s2.L.length=2;rw[l2];rfl
 have p3:s3.k.plan=[⟨1,0⟩]:=by rw[← hs3];show s2.k.plan++_=_;rw[k2,hp0];rfl
 have n3:s3.n=0:=by rw[← hs3];exact n2
 have f3:s3.fails=0:=by rw[← hs3];exact f2
 have tl3:s3.L=[it29 1,it29 4]:=by rw[← hs3];exact l2
 clear hs3 o2 n2 k2 f2 hA2 l2
 repeat first|refine Gp ?_|refine Gw λw hS=>?_|refine Gb λb w hS=>?_
 have r3:s3.ready 0=true:=by unfold PWt.ready;rw[n3,if_neg (by decide),l3];rfl
 (apply ze (yt p.w awc H4 s3 0) hS;exact Xp;clear hS)
 (rintro v post ⟨rfl,rfl⟩ w hS;(try simp only[app]at hS);(repeat (first|refine Gp ?_|refine Gw λw hS=>?_|refine Gb λb w hS=>?_)))
 rw[r3]
 refine zr ?_
 repeat first|refine Gp ?_|refine Gw λw hS=>?_|refine Gb λb w hS=>?_
 (apply ze (zU p.w awc H4 s3 0 0 hA3.w (by decide) (hA3.kok (by decide) (by decide))) hS;exact Xp;clear hS)
 rintro _ post ⟨rfl,H5,h45,rfl⟩ w hS
 (try simp only[app]at hS)
 obtain⟨hd,hne,he1,he2,_,he3,hcase⟩:=hA3.step (by decide) (now:=0) (draw:=0) r3
 have hdl:hd=[it29 1,it29 4]:=by rw[he2 n3,tl3];rfl
 rcases hcase with ⟨hp,_⟩|⟨_,hr,hn4,hf4,ht4,bt4,hA4⟩
 ·rw[p3]at hp;cases hp
 rw[hr]
 rw[p3]at he3
 subst hdl
 have hl4:(s3.step awc 0 0).1.L=[]:=by
  rw[tl3]at he1
  have h:=congrArg List.length he1
  simp only[List.length_append,List.length_cons,List.length_nil]at h
  exact List.eq_nil_of_length_eq_zero (by omega)
 rw[f3]at ht4
 have ht4:(s3.step awc 0 0).1.til=2:=by rw[ht4];decide
 generalize (s3.step awc 0 0).1=s4 at *
 have hn4:s4.n=2:=hn4
 have r4:s4.ready 1=false:=by unfold PWt.ready;rw[hn4,if_pos (by decide),ht4];decide
 have r5:s4.ready 2=true:=by unfold PWt.ready;rw[hn4,if_pos (by decide),ht4];decide
 repeat first|refine Gp ?_|refine Gw λw hS=>?_|refine Gb λb w hS=>?_
 (apply ze (zU p.w awc H5 s4 1 0 hA4.w (by decide) (hA4.kok (by decide) (by decide))) hS;exact Xp;clear hS)
 rintro _ post ⟨rfl,H6,h56,rfl⟩ w hS
 (try simp only[app]at hS)
 have e5:s4.step awc 1 0=(s4,0,0):=by unfold PWt.step;rw[r4];rfl
 rw[e5]at hS ⊢
 repeat first|refine Gp ?_|refine Gw λw hS=>?_|refine Gb λb w hS=>?_
 (apply ze (zU p.w awc H6 s4 2 0 hA4.w (by decide) (hA4.kok (by decide) (by decide))) hS;exact Xp;clear hS)
 rintro _ post ⟨rfl,H7,h67,rfl⟩ w hS
 (try simp only[app]at hS)
 obtain⟨hd',hne',he1',_,he2',he3',hcase⟩:=hA4.step (by decide) (now:=2) (draw:=0) r5
 rcases hcase with ⟨hp,hr,hn5,ho5,hf5,bt5,_,_,hA5⟩|⟨hp,_⟩
 ·rw[hr]
  have hdl:hd'=[it29 1,it29 4]:=he2' (by rw[hn4];decide)
  subst hdl
  have hl5:(s4.step awc 2 0).1.L=[]:=by
   rw[hl4]at he1'
   have h:=congrArg List.length he1'
   simp only[List.length_append,List.length_cons,List.length_nil]at h
   exact List.eq_nil_of_length_eq_zero (by omega)
  have hlsn:(s4.step awc 2 0).1.k.lsn=4:=by
   rcases hA5.tr with h|⟨h,_⟩
   ·exact congrArg (·.2.2) h
   ·exact absurd rfl h
  have hheld:(s4.step awc 2 0).1.held.lsn=0:=by rw[hA5.held];rfl
  have hlen:=hA5.w.hlen
  generalize (s4.step awc 2 0).1=s5 at *
  repeat first|refine Gp ?_|refine Gw λw hS=>?_|refine Gb λb w hS=>?_
  refine zf (λ_=>?_) (λh=>absurd rfl h)
  repeat first|refine Gp ?_|refine Gw λw hS=>?_|refine Gb λb w hS=>?_
  refine zf (λ_=>?_) (λh=>absurd rfl h)
  repeat first|refine Gp ?_|refine Gw λw hS=>?_|refine Gb λb w hS=>?_
  refine zf (λ_=>?_) (λh=>absurd rfl h)
  repeat first|refine Gp ?_|refine Gw λw hS=>?_|refine Gb λb w hS=>?_
  refine zf (λ_=>?_) (λh=>absurd rfl h)
  repeat first|refine Gp ?_|refine Gw λw hS=>?_|refine Gb λb w hS=>?_
  refine zf (λ_=>?_) (λh=>absurd rfl h)
  repeat first|refine Gp ?_|refine Gw λw hS=>?_|refine Gb λb w hS=>?_
  refine zf (λ_=>?_) (λh=>absurd rfl h)
  obtain⟨ov,nv,hi,hS⟩:=WrO.open hS Xr
  repeat first|refine Gp ?_|refine Gw λw hS=>?_|refine Gb λb w hS=>?_
  (apply ze (yS p.w.kp p.w.gp p.w.dp p.w.lp p.w.pp H7 s5.k) hS;exact Xp;clear hS)
  (rintro v post ⟨rfl,rfl⟩ w hS;(try simp only[app]at hS);(repeat (first|refine Gp ?_|refine Gw λw hS=>?_|refine Gb λb w hS=>?_)))
  refine zf (λ_=>?_) (λh=>absurd hlsn h)
  repeat first|refine Gp ?_|refine Gw λw hS=>?_|refine Gb λb w hS=>?_
  (apply ze (yh p.w.qp p.w.qb awc.cap s5.out (s5.L.map strI)) hS;exact Xp;clear hS)
  (rintro v post ⟨rfl,rfl⟩ w hS;(try simp only[app]at hS);(repeat (first|refine Gp ?_|refine Gw λw hS=>?_|refine Gb λb w hS=>?_)))
  have hcr:awc.cap-(s5.L.map strI).length-s5.out=2:=by rw[hl5,ho5];rfl
  rw[hcr]
  refine zf (λ_=>?_) (λh=>absurd rfl h)
  have hS:=WrO.put (p:=p.w) (c:=awc) s5 hS hi Xp
  repeat first|refine Gp ?_|refine Gw λw hS=>?_|refine Gb λb w hS=>?_
  (apply ze (qn p.w awc H7 s5 (by omega) (by omega)) hS;exact Xp;clear hS)
  rintro _ post ⟨hv,H8,h78,rfl,hx,rfl⟩ w hS
  (try simp only[app]at hS)
  have e:encIt hv=[.int .i64 0,hv.ov,hv.nv]:=by unfold encIt;rw[hx.lsn,hheld]
  rw[e]
  refine ZC (v:=.int .i64 0) Tryz.underlying46 rfl (λw=>by kernel_rfl) rfl ?_
  repeat first|refine Gp ?_|refine Gw λw hS=>?_|refine Gb λb w hS=>?_
  exact⟨_,⟨rfl,rfl⟩,SL.into hS Xi⟩
 ·exact absurd he3 hp
end Go.Proofs.YtnmhmnnadkclbaaGreat
namespace Go.Proofs.YtnmhmnnadkclbaaGreat
set_option linter.unusedVariables false
set_option maxRecDepth 100000
open Go.ChangeShapes Go.WideShapes Go.ChangeAt Go.RowKit
def tCfg:GoT PCfg:=(tPair (tInt .i64) (tPair (tInt .i64) (tPair (tInt .i64) (tPair (tInt .i64) (tPair (tInt .i64) (tPair (tInt .i64) (tPair (tInt .i64) (tPair (tInt .i64) (tPair (tInt .i64) (tPair (tInt .i64) tUnit)))))))))).via λc=>(c.tables,c.late,c.size,c.queue,c.chunk,c.batch,c.base,c.most,c.jitter,c.every,())
theorem tCfg_rd{w:World}{M:MS}{c:PCfg}{cs:List Value}(h:tCfg.rd w M c cs):cs=encCfg c:=by
 obtain⟨c1,c2,rfl,h1,c3,c4,rfl,h3,c5,c6,rfl,h5,c7,c8,rfl,h7,c9,c10,rfl,h9,c11,c12,rfl,h11,c13,c14,rfl,h13,c15,c16,rfl,h15,c17,c18,rfl,h17,c19,c20,rfl,h19,h20⟩:=h
 have h1':c1=[.int .i64 c.tables]:=h1
 have h3':c3=[.int .i64 c.late]:=h3
 have h5':c5=[.int .i64 c.size]:=h5
 have h7':c7=[.int .i64 c.queue]:=h7
 have h9':c9=[.int .i64 c.chunk]:=h9
 have h11':c11=[.int .i64 c.batch]:=h11
 have h13':c13=[.int .i64 c.base]:=h13
 have h15':c15=[.int .i64 c.most]:=h15
 have h17':c17=[.int .i64 c.jitter]:=h17
 have h19':c19=[.int .i64 c.every]:=h19
 have h20':c20=[]:=h20
 subst h1' h3' h5' h7' h9' h11' h13' h15' h17' h19' h20'
 rfl
def okCfgA(c:PCfg):Prop:=True
theorem cfgOpens:Opens Tryz.prog 109 tCfg okCfgA:=
 yM (yB (λc:PCfg=>(c.tables,c.late,c.size,c.queue,c.chunk,c.batch,c.base,c.most,c.jitter,c.every,())) (λx=>⟨x.1,x.2.1,x.2.2.1,x.2.2.2.1,x.2.2.2.2.1,x.2.2.2.2.2.1,x.2.2.2.2.2.2.1,x.2.2.2.2.2.2.2.1,x.2.2.2.2.2.2.2.2.1,x.2.2.2.2.2.2.2.2.2.1⟩) (λ_=>rfl)
  (z6 Tryz.underlying109 (by kernel_rfl) (fields_cons (opens_int Tryz.underlying3 (by kernel_rfl)) rfl (fields_cons (opens_int Tryz.underlying3 (by kernel_rfl)) rfl (fields_cons (opens_int Tryz.underlying3 (by kernel_rfl)) rfl (fields_cons (opens_int Tryz.underlying3 (by kernel_rfl)) rfl (fields_cons (opens_int Tryz.underlying3 (by kernel_rfl)) rfl (fields_cons (opens_int Tryz.underlying3 (by kernel_rfl)) rfl
   (fields_cons (opens_int Tryz.underlying2 (by kernel_rfl)) rfl (fields_cons (opens_int Tryz.underlying2 (by kernel_rfl)) rfl (fields_cons (opens_int Tryz.underlying2 (by kernel_rfl)) rfl (fields_cons (opens_int Tryz.underlying2 (by kernel_rfl)) rfl (fields_nil _ _)))))))))))))
  (λc h=>trivial)
theorem its_of{w:World}{l:List PItem}{v:Value}(h:RdS tItem w Nob l v):∃vs:List ItV,RdSl (Heap.of w) 3 v l.length (vs.map encIt).flatten∧Its (Heap.of w) vs l:=by
 obtain⟨css,h1,h2,h3⟩:=RdS.cellsN h (by decide)
 have hex:∀i,∃x:ItV,∀(h:i<l.length) (h':i<css.length),css[i]=encIt x∧ItIs (Heap.of w) x l[i]:=λi=>by
  by_cases hi:i<l.length
  ·obtain⟨x,e,hx⟩:=tItem_rd (h3 i hi (by omega))
   exact⟨x,λ_ _=>⟨e,hx⟩⟩
  ·exact⟨⟨0,.slice none 0 0,.slice none 0 0⟩,λh=>absurd h hi⟩
 obtain⟨f,hf⟩:=Classical.axiomOfChoice hex
 refine⟨(List.range l.length).map f,?_,⟨by simp,λi hi hi'=>by simpa using (hf i hi' (by omega)).2⟩⟩
 have e:css=((List.range l.length).map f).map encIt:=List.ext_getElem (by simp[h1]) λi g1 g2=>by simpa using (hf i (by omega) g1).1
 rw[e]at h2
 exact h2
end Go.Proofs.YtnmhmnnadkclbaaGreat
namespace Go.Proofs.YtnmhmnnadkclbaaGreat
set_option linter.unusedVariables false
set_option maxRecDepth 100000
open Go.RowKit
def wcfOf(c:PCfg):WCf:=⟨1+md c.queue 5,1+md c.batch 4,1+(md c.base 4:Int),1+(md c.base 4:Int)+(md c.most 12:Int),(md c.jitter 4:Int)⟩
theorem cfgOf_ok(c:PCfg):CfgOk (cfgOf c) (wcfOf c) (1+md c.tables 4):=by
 have h1:=md_lt c.tables 4 (by decide)
 have h2:=md_lt c.size 4 (by decide)
 have h3:=md_lt c.queue 5 (by decide)
 have h5:=md_lt c.batch 4 (by decide)
 have h6:=md_lt c.base 4 (by decide)
 have h7:=md_lt c.most 12 (by decide)
 have h8:=md_lt c.jitter 4 (by decide)
 have h9:=cfgSz_in h2
 refine⟨by omega,by omega,?_,h9.1,by have:=h9.2;show cfgSz (md c.size 4)≤65536;omega,?_,?_,?_,?_,?_,?_,rfl,rfl,rfl,?_⟩
 ·show 1+(md c.tables 4:Int)=((1+md c.tables 4:Nat):Int);omega
 ·show 1+(md c.queue 5:Int)=((1+md c.queue 5:Nat):Int);omega
 ·show 1≤1+md c.queue 5;omega
 ·show 1+md c.queue 5≤64;omega
 ·show 1+(md c.batch 4:Int)=((1+md c.batch 4:Nat):Int);omega
 ·show 1≤1+md c.batch 4;omega
 ·show 1+md c.batch 4≤64;omega
 ·show MayB (1+(md c.base 4:Int)) (1+(md c.base 4:Int)+(md c.most 12:Int)) (md c.jitter 4:Int)
  refine⟨?_,?_,?_,?_,?_,?_⟩<;>omega
theorem piOf_wit(t:PItem)(k lsn:Nat)(hk:0<k)(hk8:k≤8)(hl:lsn+3≤1099511627776):WIt k (piOf t k lsn):=
 ⟨piOf_may t k lsn hk hk8 hl (out:=[]) (by decide) (by simp),piOf_tabs t k lsn hk hk8 [],by show ((t.ops.take 5).map _).length≤5;rw[List.length_map,List.length_take];omega,rfl⟩
theorem trI_snoc(n:Nat)(A:List PItem)(z:PItem):(trI n (A++[z])).1=(putAll (trI n A).1 z.ops).1:=by
 unfold trI
 rw[opsOf_append,putAll_append]
 simp[opsOf]
theorem opsOf_len{n:Nat}:∀{A:List PItem},(∀x∈A,WIt n x)→(opsOf A).length≤5*A.length
 | [],_=>Nat.le_refl _
 | x::A,h=>by
  have h1:=(h x (.head _)).ops
  have h2:=opsOf_len (A:=A) λy hy=>h y (.tail _ hy)
  have e:opsOf (x::A)=x.ops++opsOf A:=by simp[opsOf]
  rw[e,List.length_append,List.length_cons]
  omega
theorem WIt.key{n:Nat}{x:PItem}(h:WIt n x):∀o∈x.ops,inI64 o.key:=(mayItem_iok h.may).2
theorem opsOf_key{n:Nat}{A:List PItem}(h:∀x∈A,WIt n x):∀o∈opsOf A,inI64 o.key:=λo ho=>by
 unfold opsOf at ho
 obtain⟨l,hl,hol⟩:=List.mem_flatten.1 ho
 obtain⟨x,hx,rfl⟩:=List.mem_map.1 hl
 exact (h x hx).key o hol
theorem trI_ok{n:Nat}{A:List PItem}(h:∀x∈A,WIt n x)(hl:A.length≤200):okS (trI n A).1∧small (trI n A).1 100:=by
 have hlen:=opsOf_len h
 refine⟨okS_all (okS_nil n) (opsOf_key h),small_all (small_mono (small_nil n 1 (by decide)) (by omega))⟩
structure QInv(c:WCf)(n:Nat)(s:PWt)(done hd:List PItem)(j f bt m nf at_:Nat)(last now:Int)(fails i:Nat):Prop where
 a:AInv c n s done hd j f bt
 at1:done.length+hd.length+s.L.length=at_
 at2:at_≤m
 m20:m≤20
 lst:lastL 0 (done++hd++s.L)=last
 ll:last≤3*at_
 l0:0≤last
 fl:fails+s.k.plan.length≤nf
 jb:j+s.k.plan.length+((m-at_)+s.L.length+s.n)≤100
 R:i+(m-at_)+((m-at_)+s.L.length+s.n)+19*s.k.plan.length+(s.til-now).toNat≤3000
 n0:0≤now
 n1:now≤i
 fi:f≤i
theorem QInv.put{c:WCf}{n:Nat}{s:PWt}{done hd:List PItem}{j f bt m nf at_:Nat}{last now:Int}{fails i:Nat}(h:QInv c n s done hd j f bt m nf at_ last now fails i){x:PItem}(hx:WIt n x)(hl:last<x.lsn)(hl3:x.lsn≤last+3)(hr:s.L.length+s.out<c.cap)(ha:at_<m):
  QInv c n {s with L:=s.L++[x]} done hd j f bt m nf (at_+1) x.lsn now fails (i+1):=by
 have hlen:(s.L++[x]).length=s.L.length+1:=by rw[List.length_append,List.length_singleton]
 have h1:=h.at1
 have h2:=h.jb
 have h3:=h.R
 have h4:=h.n1
 have h5:=h.fi
 have h6:=h.ll
 have h7:=h.l0
 refine⟨h.a.put hx (by rw[h.lst];exact hl) hr,?_,by omega,h.m20,?_,by omega,by omega,h.fl,?_,?_,h.n0,by omega,by omega⟩
 ·show done.length+hd.length+(s.L++[x]).length=_;omega
 ·show lastL 0 (done++hd++(s.L++[x]))=_
  rw[← List.append_assoc,lastL_snoc]
 ·show j+s.k.plan.length+((m-(at_+1))+(s.L++[x]).length+s.n)≤100;omega
 ·show i+1+(m-(at_+1))+((m-(at_+1))+(s.L++[x]).length+s.n)+19*s.k.plan.length+(s.til-now).toNat≤3000;omega
theorem QInv.wait{c:WCf}{n:Nat}{s:PWt}{done hd:List PItem}{j f bt m nf at_:Nat}{last now:Int}{fails i:Nat}(h:QInv c n s done hd j f bt m nf at_ last now fails i)(hr:s.ready now=false)(hne:0<s.L.length+s.n):
  QInv c n s done hd j f bt m nf at_ last (now+1) fails (i+1):=by
 have h3:=h.R
 have h4:=h.n1
 have h5:=h.fi
 have h0:=h.n0
 have hlt:now<s.til:=by
  unfold PWt.ready at hr
  by_cases hn:0<s.n
  ·rw[if_pos hn,decide_eq_false_iff_not]at hr;omega
  ·rw[if_neg hn,decide_eq_false_iff_not]at hr;omega
 exact⟨h.a,h.at1,h.at2,h.m20,h.lst,h.ll,h.l0,h.fl,h.jb,by omega,by omega,by omega,by omega⟩
theorem QInv.turn{c:WCf}{n:Nat}{s:PWt}{done hd:List PItem}{j f bt m nf at_:Nat}{last now:Int}{fails i:Nat}(h:QInv c n s done hd j f bt m nf at_ last now fails i)(hm:MayB c.b c.m c.j)(h18:c.m+c.j≤18)(hi:i<3000){draw:Int}(hr:s.ready now=true):
  ∃done' hd' j' f' bt',done'++hd'++(s.step c now draw).1.L=done++hd++s.L ∧
   (((s.step c now draw).2=(6,0)∧(s.step c now draw).1.out=0∧QInv c n (s.step c now draw).1 done' hd' j' f' bt' m nf at_ last now fails (i+1)) ∨
    ((s.step c now draw).2=(7,0)∧0<(s.step c now draw).1.out∧QInv c n (s.step c now draw).1 done' hd' j' f' bt' m nf at_ last now (fails+1) (i+1))):=by
 have h1:=h.at1
 have h2:=h.jb
 have h3:=h.R
 have h4:=h.n1
 have h5:=h.fi
 have h6:=h.fl
 have h0:=h.n0
 obtain⟨hd',hne,he1,_,_,hp,hcase⟩:=h.a.step (by omega) (now:=now) (draw:=draw) hr
 have hpos:0<hd'.length:=List.length_pos_iff.2 hne
 have hn:=h.a.hn
 have hlen:=congrArg List.length he1
 rw[List.length_append,List.length_append]at hlen
 have hlast:∀X,X=hd++s.L→lastL 0 (done++X)=last:=λX e=>by rw[e,← List.append_assoc];exact h.lst
 rcases hcase with ⟨hpl,he,hn5,ho5,_,bt',_,_,hA⟩|⟨hpl,he,hn5,hf5,ht5,bt',hA⟩
 ·refine⟨done++hd',[],j+1,f+1,bt',?_,.inl ⟨he,ho5,hA,?_,h.at2,h.m20,?_,h.ll,h.l0,?_,?_,?_,h.n0,by omega,by omega⟩⟩
  ·rw[List.append_nil,List.append_assoc,← he1,← List.append_assoc]
  ·rw[List.length_append,List.length_nil];omega
  ·rw[List.append_nil,List.append_assoc,← he1];exact hlast _ rfl
  ·rw[hp,hpl];show fails+0≤nf;omega
  ·rw[hp,hpl,hn5]
   rw[hpl]at h2
   have h2:j+0+(m-at_+s.L.length+s.n)≤100:=h2
   show j+1+0+_≤100;omega
  ·have htil:(s.step c now draw).1.til=0:=by
    unfold PWt.step at he ⊢
    rw[if_pos hr]at he ⊢
    generalize s.hold c.most=s1 at *
    unfold PWt.hand at he ⊢
    split
    ·rfl
    ·rename_i hc
     rw[if_neg hc]at he
     split at he<;>simp at he
   rw[hp,hpl,hn5,htil]
   rw[hpl]at h3
   have h3:i+(m-at_)+(m-at_+s.L.length+s.n)+0+(s.til-now).toNat≤3000:=h3
   show i+1+(m-at_)+(m-at_+_+0)+0+(0-now).toNat≤3000;omega
 ·have hpd:s.k.plan.length=(s.step c now draw).1.k.plan.length+1:=by
   rw[hp,List.length_drop]
   have:0<s.k.plan.length:=List.length_pos_iff.2 hpl
   omega
  have hck:clkR now=now:=by unfold clkR;omega
  have hw:waitB (s.fails+1) c.b c.m c.j draw≤c.m+c.j:=by
   unfold waitB
   rw[if_pos hm]
   obtain⟨m1,m2,m3,m4,m5,m6⟩:=hm
   have hr2:=Int.emod_lt_of_pos (max draw 0) (b:=c.j+1) (by omega)
   unfold dly
   rw[if_pos ⟨m1,m2,m3,m4,by omega,by omega⟩]
   have:=@dlyN_le (s.fails+1).toNat c.b c.m
   omega
  rw[hck]at ht5
  refine⟨done,hd',j+1,f+1,bt',?_,.inr ⟨he,?_,hA,?_,h.at2,h.m20,?_,h.ll,h.l0,?_,?_,?_,h.n0,by omega,by omega⟩⟩
  ·rw[List.append_assoc,← he1,← List.append_assoc]
  ·have:=hA.w.out;omega
  ·omega
  ·rw[List.append_assoc,← he1];exact hlast _ rfl
  ·omega
  ·omega
  ·rw[ht5];omega
theorem ZK(H:Heap)(c:PCfg)(v fv dv:Value)(l:List PItem)(vs:List ItV)(fs:List PFt)(ds:List Int)(hv:RdSl H 3 v l.length (vs.map encIt).flatten)(hits:Its H vs l)(hok:∀x∈l,okItemA x)(hfv:RdFt H fv fs)(hdv:RdSl H 1 dv ds.length (ds.map (Value.int .i64))):
  Spec Tryz.prog 10 [agg (encCfg c),v,fv,dv] [.mem H] (λv post=>v= .bool true∧∃H' l,H.le H'∧post= .mem H'::l):=by
 intro W F w hS;apply vc10;unfold Vc10;(try simp only[app]at hS)
 refine zD hS λcb w hS=>?_
 refine zC hS Xh rfl ?_
 (apply ze (Zn c) hS;exact Xp;clear hS)
 rintro _ post ⟨rfl,rfl⟩ w hS
 (try simp only[app]at hS)
 refine zM hS Xu rfl rfl (encCfg_one _) λw hS=>?_
 refine zC hS Xh rfl ?_
 have hcf:=cfgOf_ok c
 have h18:(wcfOf c).m+(wcfOf c).j≤18:=by
  have h6:=md_lt c.base 4 (by decide)
  have h7:=md_lt c.most 12 (by decide)
  have h8:=md_lt c.jitter 4 (by decide)
  show 1+(md c.base 4:Int)+(md c.most 12:Int)+(md c.jitter 4:Int)≤18
  omega
 generalize cfgOf c=cc at *
 generalize wcfOf c=kc at *
 generalize 1+md c.tables 4=n at *
 obtain⟨k0,ho,hI0,hp0,hd0,hl0,he0⟩:=PInv.first hcf.n1 hcf.n8 hcf.s0 hcf.s1
 (apply ze (yi H cc kc n hcf k0 ho he0) hS;exact Xp;clear hS)
 rintro _ post ⟨p,H1,h01,rfl,rfl⟩ w hS
 (try simp only[app]at hS)
 repeat first|refine Gp ?_|refine Gw λw hS=>?_|refine Gb λb w hS=>?_
 refine zr ?_
 (apply ze (yj) hS;exact Xp;clear hS)
 (rintro v post ⟨rfl,rfl⟩ w hS;(try simp only[app]at hS);(repeat (first|refine Gp ?_|refine Gw λw hS=>?_|refine Gb λb w hS=>?_)))
 refine zr ?_
 have hlen:=hits.len
 have hA:=AInv.first (c:=kc) hI0 hd0 hcf.q1 hcf.q64 hcf.b1 hcf.b64
 have hn1:=hcf.n1
 have hn8:=hcf.n8
 have hmay:=hcf.may
 have hct:=hcf.tables
 obtain⟨ct,cl,cs,cq,cch,cba,cb0,cm,cj,ce⟩:=cc
 simp only at hct
 subst hct
 unfold encCfg at hS
 generalize hCB:Chunk.pt cb [.int .i64 (n:Int),.int .i64 cl,.int .i64 cs,.int .i64 cq,.int .i64 cch,.int .i64 cba,.int .i64 cb0,.int .i64 cm,.int .i64 cj,.int .i64 ce] 109=CB at hS
 refine zt hfv ?_
 repeat first|refine Gp ?_|refine Gw λw hS=>?_|refine Gb λb w hS=>?_
 have hmin:min (fs.length:Int) 12=((min fs.length 12:Nat):Int):=by omega
 rw[hmin]
 have hnf1:min fs.length 12≤12:=Nat.min_le_right _ _
 have hnf2:min fs.length 12≤fs.length:=Nat.min_le_left _ _
 generalize min fs.length 12=nf at *
 have hz:(s0W k0).k.plan.length=0∧(s0W k0).L=[]∧(s0W k0).n=0∧(s0W k0).til=0:=⟨by show k0.plan.length=0;rw[hp0];rfl,rfl,rfl,rfl⟩
 refine⟨λus w=>∃(t:Nat) (H2:Heap) (s:PWt),us=[.int .i64 t]∧t≤nf∧H.le H2∧AInv kc n s [] [] t 0 0∧(s.k.plan.length=t∧s.L=[]∧s.n=0∧s.til=0)∧SL W (CB::DeskP p 0::.ob (WrO p.w kc H2 s)::.mem H2::F) w,
  λus _=>match us with|[.int _ t]=>(nf-t).toNat|_=>0,⟨0,H1,s0W k0,rfl,by omega,h01,hA,hz,SL.into hS Xi⟩,?_⟩
 clear hS hA hz hI0 hp0 hd0 hl0 he0 ho h01
 rintro v11 w ⟨t,H2,s,hus,htn,h02,hA,⟨hpl,hL0,hn0,htl⟩,hS⟩
 cases hus
 repeat first|refine Gp ?_|refine Gw λw hS=>?_|refine Gb λb w hS=>?_
 refine zf (λh=>?_) (λh=>?_)
 ·have htl2:t<fs.length:=by omega
  obtain⟨ov,nv,hit,hS⟩:=WrO.open hS Xr
  repeat first|refine Gp ?_|refine Gw λw hS=>?_|refine Gb λb w hS=>?_
  refine Zh (hfv.mono h02) htl2 λab ao hb=>?_
  have hb2:∀i u,(encFt fs[t])[i]?=some u→H2.cell ab (ao+i)=some u:=λi u hu=>
   hb i u (by have:=(List.getElem?_eq_some_iff.1 hu).1;rw[encFt_len]at this;exact this) (flat_at encFt_len fs t i fs[t] u (List.getElem?_eq_getElem htl2) hu)
  generalize fs[t]=f0 at *
  refine ZJ hS Xh rfl hb2 ?_
  (apply ze (yD p.w.kp p.w.gp p.w.dp p.w.lp p.w.pp H2 s.k) hS;exact Xp;clear hS)
  (rintro v post ⟨rfl,rfl⟩ w hS;(try simp only[app]at hS);(repeat (first|refine Gp ?_|refine Gw λw hS=>?_|refine Gb λb w hS=>?_)))
  refine ZJ hS Xh rfl hb2 ?_
  refine Q0 ?_
  (apply ze (YE f0) hS;exact Xp;clear hS)
  (rintro v post ⟨rfl,rfl⟩ w hS;(try simp only[app]at hS);(repeat (first|refine Gp ?_|refine Gw λw hS=>?_|refine Gb λb w hS=>?_)))
  have hfm:=ftOf_may f0
  have hfk:=ftOf_keep f0
  generalize ftOf f0=f at *
  have hS:=OwnSl.full (n:=1) (sz:=2) (cells:=(([f]:List PFt).map encFt).flatten) (t:=48) rfl hS
  obtain⟨H3,h23,hR2,hS⟩:=zN (H:=H2) hS Xp
  have hS:=SnkO.monoP h23 hS Xr
  (apply ze (yY p.w H3 s.k f _ hR2 hfm (by omega)) hS;exact Xp;clear hS)
  (rintro v post ⟨rfl,rfl⟩ w hS;(try simp only[app]at hS);(repeat (first|refine Gp ?_|refine Gw λw hS=>?_|refine Gb λb w hS=>?_)))
  refine zf (λh=>absurd rfl h) (λ_=>?_)
  have hAp:=hA.push hfm hfk
  have hS:=WrO.putN (p:=p.w) (c:=kc) (L:=s.L) (held:=s.held) hS (hit.mono h23) Xp
  repeat first|refine Gp ?_|refine Gw λw hS=>?_|refine Gb λb w hS=>?_
  refine⟨⟨t+1,H3,{s with k:={s.k with plan:=s.k.plan++[f]}},rfl,by omega,Heap.le_trans h02 h23,hAp,⟨?_,hL0,hn0,htl⟩,?_⟩,by dsimp only;omega⟩
  ·show (s.k.plan++[f]).length=t+1
   rw[List.length_append,List.length_singleton,hpl]
  ·exact SL.into hS Xi
 ·rw[← hCB]at hS
  repeat first|refine Gp ?_|refine Gw λw hS=>?_|refine Gb λb w hS=>?_
  (apply ze (rnew_ok H2 n hn1 hn8) hS;exact Xp;clear hS)
  rintro _ post ⟨wr,rfl,rfl⟩ w hS
  (try simp only[app]at hS)
  rw[hCB]at hS
  have hte:t=nf:=by omega
  subst hte
  clear h htn
  refine zt hv ?_
  repeat first|refine Gp ?_|refine Gw λw hS=>?_|refine Gb λb w hS=>?_
  have hmin:min (l.length:Int) 20=((min l.length 20:Nat):Int):=by omega
  rw[hmin]
  have hm20:min l.length 20≤20:=Nat.min_le_right _ _
  have hml:min l.length 20≤l.length:=Nat.min_le_left _ _
  generalize min l.length 20=m at *
  have hQ0:QInv kc n s [] [] t 0 0 m t 0 0 0 0 0:=by
   have e1:s.L.length=0:=by rw[hL0];rfl
   exact⟨hA,by rw[hL0];rfl,Nat.zero_le _,hm20,by rw[hL0];rfl,Int.le_refl _,Int.le_refl _,by omega,by omega,by omega,Int.le_refl _,Int.le_refl _,Nat.le_refl _⟩
  have hR0:List.replicate n ([]:List Cell)=(trI n ([]++[]++s.L)).1:=by rw[hL0];rfl
  rw[hR0]at hS
  have hS:SL W (CB::DeskP p 0::.ob (WrO p.w kc H2 s)::.ob (Ref H2 wr (trI n ([]++[]++s.L)).1)::.mem H2::F) w:=SL.into hS Xi
  clear hR0 hA hpl hL0 hn0 htl
  refine⟨λus w=>∃(last:Int) (fails:Nat) (H3:Heap) (s:PWt) (done:List PItem) (j f bt:Nat),us=[.int .i64 last,.int .i64 m,.int .i64 fails]∧fails≤t∧H.le H3∧j≤100∧AInv kc n s done [] j f bt∧s.L=[]∧s.out=0∧lastL 0 done=last∧(∀x∈done,WIt n x)∧done.length≤200∧SL W (CB::DeskP p 0::.ob (WrO p.w kc H3 s)::.ob (Ref H3 wr (trI n done).1)::.mem H3::F) w,?_,?_⟩
  ·refine⟨λus w=>∃(last now:Int) (at_ fails i:Nat) (H3:Heap) (s:PWt) (done hd:List PItem) (j f bt:Nat),us=[.int .i64 last,.int .i64 at_,.int .i64 now,.int .i64 fails,.int .i64 i]∧i≤3000∧H.le H3∧QInv kc n s done hd j f bt m t at_ last now fails i∧SL W (CB::DeskP p 0::.ob (WrO p.w kc H3 s)::.ob (Ref H3 wr (trI n (done++hd++s.L)).1)::.mem H3::F) w,
    λus _=>match us with|[_,_,_,_,.int _ i]=>(3000-i).toNat|_=>0,⟨0,0,0,0,0,H2,s,[],[],t,0,0,rfl,by omega,h02,hQ0,hS⟩,?_⟩
   clear hS hQ0 h02
   rintro v13 v14 v15 v16 v18 w ⟨last,now,at_,fails,i,H3,s,done,hd,j,f,bt,hus,hi3,h03,hQ,hS⟩
   cases hus
   have hout:=hQ.a.w.out
   have hat2:=hQ.at2
   have hR:=hQ.R
   have hjb:=hQ.jb
   have hfl:=hQ.fl
   have hheld:=hQ.a.w.held
   have hhn:=hQ.a.hn
   have hdl:=hQ.at1
   have hmm:=hQ.m20
   have hroom:=hQ.a.w.room
   have hcap1:=hQ.a.w.cap1
   have hcap:=hQ.a.w.cap
   have hex:at_=m→s.L.length+s.n=0→∀{w:World},SL W (CB::DeskP p 0::.ob (WrO p.w kc H3 s)::.ob (Ref H3 wr (trI n (done++hd++s.L)).1)::.mem H3::F) w→∃(last':Int) (fails':Nat) (H3:Heap) (s:PWt) (done:List PItem) (j f bt:Nat),[Value.int .i64 last,.int .i64 (at_:Int),.int .i64 (fails:Int)]=[.int .i64 last',.int .i64 m,.int .i64 fails']∧fails'≤t∧H.le H3∧j≤100∧AInv kc n s done [] j f bt∧s.L=[]∧s.out=0∧lastL 0 done=last'∧(∀x∈done,WIt n x)∧done.length≤200∧SL W (CB::DeskP p 0::.ob (WrO p.w kc H3 s)::.ob (Ref H3 wr (trI n done).1)::.mem H3::F) w:=λha h0 w hS=>by
    have hL:s.L=[]:=List.eq_nil_of_length_eq_zero (by omega)
    have hd0:hd=[]:=List.eq_nil_of_length_eq_zero (by omega)
    have hlst:=hQ.lst
    have hA:=hQ.a
    subst hd0
    rw[hL,List.append_nil,List.append_nil]at hS hlst
    exact⟨last,fails,H3,s,done,j,f,bt,by rw[ha],by omega,h03,by omega,hA,hL,by omega,hlst,λx hx=>hA.it x (List.mem_append_left _ (List.mem_append_left _ hx)),by omega,hS⟩
   have hlen0:∀{w:World},SL W (CB::DeskP p 0::.ob (WrO p.w kc H3 s)::.ob (Ref H3 wr (trI n (done++hd++s.L)).1)::.mem H3::F) w→True:=λ_=>trivial
   refine⟨λus w=>us=[]∧i<3000∧(at_<m∨0<s.L.length+s.n)∧SL W (CB::DeskP p 0::.ob (WrO p.w kc H3 s)::.ob (Ref H3 wr (trI n (done++hd++s.L)).1)::.mem H3::F) w,?_,?_⟩
   ·repeat first|refine Gp ?_|refine Gw λw hS=>?_|refine Gb λb w hS=>?_
    refine zf (λhi=>?_) (λhi=>hex (by omega) (by omega) hS)
    repeat first|refine Gp ?_|refine Gw λw hS=>?_|refine Gb λb w hS=>?_
    refine zf (λha=>⟨rfl,by omega,.inl (by omega),hS⟩) (λha=>?_)
    obtain⟨ov,nv,hit,hS⟩:=WrO.open hS Xr
    obtain⟨hgt,hS⟩:=gate_ring hS Xr
    repeat first|refine Gp ?_|refine Gw λw hS=>?_|refine Gb λb w hS=>?_
    (apply ze (y8 p.w.qb kc.cap (s.L.map strI)) hS;exact Xp;clear hS)
    (rintro v post ⟨rfl,rfl⟩ w hS;(try simp only[app]at hS);(repeat (first|refine Gp ?_|refine Gw λw hS=>?_|refine Gb λb w hS=>?_)))
    have hS:=Gate.putP hS hgt Xp
    (apply ze (yQ p.w.qp p.w.qb kc.cap s.out (s.L.map strI)) hS;exact Xp;clear hS)
    (rintro v post ⟨rfl,rfl⟩ w hS;(try simp only[app]at hS);(repeat (first|refine Gp ?_|refine Gw λw hS=>?_|refine Gb λb w hS=>?_)))
    have hS:=WrO.put (p:=p.w) (c:=kc) s hS hit Xp
    rw[map_len]
    repeat first|refine Gp ?_|refine Gw λw hS=>?_|refine Gb λb w hS=>?_
    refine zf (λh0=>⟨rfl,by omega,.inr (by omega),SL.into hS Xi⟩) (λh0=>hex (by omega) (by omega) (SL.into hS Xi))
   clear hS
   rintro w ⟨-,hi,hgo,hS⟩
   clear hex
   refine⟨λus w=>∃q:Bool,us=[.bool q]∧(q=true↔(at_<m∧s.L.length+s.out<kc.cap))∧SL W (CB::DeskP p 0::.ob (WrO p.w kc H3 s)::.ob (Ref H3 wr (trI n (done++hd++s.L)).1)::.mem H3::F) w,?_,?_⟩
   ·repeat first|refine Gp ?_|refine Gw λw hS=>?_|refine Gb λb w hS=>?_
    refine zf (λha=>?_) (λha=>⟨false,rfl,⟨λh=>by (cases h),λh=>by omega⟩,hS⟩)
    obtain⟨ov,nv,hit,hS⟩:=WrO.open hS Xr
    repeat first|refine Gp ?_|refine Gw λw hS=>?_|refine Gb λb w hS=>?_
    (apply ze (yh p.w.qp p.w.qb kc.cap s.out (s.L.map strI)) hS;exact Xp;clear hS)
    (rintro v post ⟨rfl,rfl⟩ w hS;(try simp only[app]at hS);(repeat (first|refine Gp ?_|refine Gw λw hS=>?_|refine Gb λb w hS=>?_)))
    rw[map_len]
    have hS:=WrO.put (p:=p.w) (c:=kc) s hS hit Xp
    exact⟨_,rfl,by rw[decide_eq_true_eq];omega,SL.into hS Xi⟩
   clear hS
   rintro _ w ⟨q,hus,hq,hS⟩
   cases hus
   refine y7 (λhqt=>?_) (λhqf=>?_)
   ·obtain⟨ha,hrm⟩:=hq.1 hqt
    have hil:at_<l.length:=by omega
    have hiv:at_<vs.length:=by omega
    have hx:=(hits.at_ at_ hiv hil).mono h03
    have hokx:=hok _ (List.getElem_mem hil)
    have hll:=hQ.ll
    have hl0:=hQ.l0
    refine zY hS λw hS=>?_
    refine Zh (hv.mono h03) hil λab ao hb=>?_
    have hb2:∀i u,(encIt vs[at_])[i]?=some u→H3.cell ab (ao+i)=some u:=λi u hu=>
     hb i u (by have:=(List.getElem?_eq_some_iff.1 hu).1;rw[encIt_len]at this;exact this) (flat_at encIt_len vs at_ i vs[at_] u (List.getElem?_eq_getElem hiv) hu)
    generalize vs[at_]=x at *
    generalize l[at_]=y at *
    refine ZJ hS Xh rfl hb2 ?_
    obtain⟨lastN,rfl⟩:∃k:Nat,last=k:=⟨last.toNat,by omega⟩
    have hm3:=md_lt y.lsn 3 (by decide)
    have hq:=piOf_wit y n lastN hn1 hn8 (by omega)
    have hzl:(piOf y n lastN).lsn=((lastN+1+md y.lsn 3:Nat):Int):=rfl
    have hQ':=hQ.put hq (by omega) (by omega) hrm ha
    have hopl:=(mayItem_iff.1 hq.may).1.2.2.1
    have hok5:=trI_ok (n:=n) (A:=done++hd++s.L) hQ.a.it (by rw[List.length_append,List.length_append];omega)
    have h5:=hq.ops
    have hkeys:=hq.key
    have htr:=trI_snoc n (done++hd++s.L) (piOf y n lastN)
    have hps:=ZR H3 x y hx n lastN hn1 hn8 (by omega) hokx.nops
    generalize piOf y n lastN=z at *
    rw[← hCB]at hS
    generalize hTS:(trI n (done++hd++s.L)).1=ts at *
    repeat first|refine Gp ?_|refine Gw λw hS=>?_|refine Gb λb w hS=>?_
    refine⟨?_,?_⟩
    (apply ze (hps) hS;exact Xp;clear hS)
    rintro _ post ⟨ov,H4,h34,rfl,hops,rfl⟩ w hS
    (try simp only[app]at hS)
    refine Gb λib w hS=>?_
    have hzi:ItIs H4 ⟨z.lsn,ov,.slice none 0 0⟩ z:=⟨rfl,hops,by rw[hq.nts];exact RdSl.nil _ _⟩
    refine zM (vs:=encIt ⟨z.lsn,ov,.slice none 0 0⟩) hS Xu rfl rfl (encIt_one hzi) λw hS=>?_
    rotate_left
    refine Gb λib w hS=>?_
    refine ZJ hS Xh rfl hb2 ?_
    repeat first|refine Gp ?_|refine Gw λw hS=>?_|refine Gb λb w hS=>?_
    (apply ze (hps) hS;exact Xp;clear hS)
    rintro _ post ⟨ov,H4,h34,rfl,hops,rfl⟩ w hS
    (try simp only[app]at hS)
    have hzi:ItIs H4 ⟨z.lsn,ov,.slice none 0 0⟩ z:=⟨rfl,hops,by rw[hq.nts];exact RdSl.nil _ _⟩
    refine zM (vs:=encIt ⟨z.lsn,ov,.slice none 0 0⟩) hS Xu rfl rfl (encIt_one hzi) λw hS=>?_
    all_goals
     refine zC hS Xh rfl ?_
     (apply ze (Z3 H4 ⟨z.lsn,ov,.slice none 0 0⟩ z hzi) hS;exact Xp;clear hS)
     rintro r post hqe w hS
     unfold EncIQ at hqe
     rw[bytesItem_ok hq.may]at hqe
     obtain⟨bv,rfl,rfl⟩:=hqe
     (try simp only[app]at hS)
     simp only[encIt]at hS
     have hS:=WrO.monoP h34 hS Xr
     have hS:=Ref.monoP h34 hS Xr
     repeat first|refine Gp ?_|refine Gw λw hS=>?_|refine Gb λb w hS=>?_
     refine zf (λh=>absurd rfl h) (λ_=>?_)
     obtain⟨ov0,nv0,hit,hS⟩:=WrO.open hS Xr
     repeat first|refine Gp ?_|refine Gw λw hS=>?_|refine Gb λb w hS=>?_
     refine yH (own_sl hS (v:=bv) (t:=5) (sz:=1) (n:=(bytesItem z).length) (cells:=(bytesItem z).map u8c) Xh) (src_own hS Xh) Tryz.underlying54 Tryz.underlying9 Tryz.underlying5 ?_
     (apply ze (gpush_yes p.w.qp p.w.qb kc.cap s.out (s.L.map strI) (strI z) (by rw[map_len];exact hrm)) hS;exact Xp;clear hS)
     (rintro v post ⟨rfl,rfl⟩ w hS;(try simp only[app]at hS);(repeat (first|refine Gp ?_|refine Gw λw hS=>?_|refine Gb λb w hS=>?_)))
     rw[map_snoc]at hS
     have hS:=WrO.putN (p:=p.w) (c:=kc) (k:=s.k) (L:=s.L++[z]) (held:=s.held) hS hit Xp
     refine zr ?_
     repeat first|refine Gp ?_|refine Gw λw hS=>?_|refine Gb λb w hS=>?_
     (apply ze (ZW H4 wr ts ov z.ops hops (by omega) hkeys hok5.1 (small_mono hok5.2 (by omega))) hS;exact Xp;clear hS)
     rintro _ post ⟨H5,h45,rfl,rfl⟩ w hS
     (try simp only[app]at hS)
     repeat first|refine Gp ?_|refine Gw λw hS=>?_|refine Gb λb w hS=>?_
     have hS:=WrO.monoP h45 hS Xr
     rw[hCB]at hS
     have hS:SL W (CB::DeskP p 0::.ob (WrO p.w kc H5 {s with L:=s.L++[z]})::.ob (Ref H5 wr (trI n (done++hd++(s.L++[z]))).1)::.mem H5::F) w:=by
      rw[← List.append_assoc,htr]
      exact SL.into hS Xi
     exact⟨⟨z.lsn,now,at_+1,fails,i+1,H5,{s with L:=s.L++[z]},done,hd,j,f,bt,rfl,by omega,Heap.le_trans h03 (Heap.le_trans h34 h45),hQ',hS⟩,by dsimp only;omega⟩
   ·have hnput:¬(at_<m∧s.L.length+s.out<kc.cap):=λh=>by rw[hq.2 h]at hqf;cases hqf
    have hne:0<s.L.length+s.n:=by omega
    refine⟨λus w=>∃draw:Int,us=[.int .i64 draw]∧SL W (CB::DeskP p 0::.ob (WrO p.w kc H3 s)::.ob (Ref H3 wr (trI n (done++hd++s.L)).1)::.mem H3::F) w,?_,?_⟩
    ·refine zt hdv ?_
     repeat first|refine Gp ?_|refine Gw λw hS=>?_|refine Gb λb w hS=>?_
     refine zf (λh=>?_) (λh=>⟨0,rfl,hS⟩)
     have hdl:i<ds.length:=by omega
     exact s_get1 hS Xh (hdv.mono h03) hdl (u:=.int .i64 ds[i]) (by simp[hdl]) ⟨ds[i],rfl,hS⟩
    clear hS
    rintro _ w ⟨draw,hus,hS⟩
    cases hus
    repeat first|refine Gp ?_|refine Gw λw hS=>?_|refine Gb λb w hS=>?_
    have hkk:=hQ.a.kok (by omega) hn8
    have hff:=hQ.fi
    have hn1':=hQ.n1
    have hn0':=hQ.n0
    (apply ze (zU p.w kc H3 s now draw hQ.a.w (by omega) hkk) hS;exact Xp;clear hS)
    rintro _ post ⟨rfl,H4,h34,rfl⟩ w hS
    (try simp only[app]at hS)
    have hS:=Ref.monoP h34 hS Xr
    have hT:SL W (CB::DeskP p 0::.ob (WrO p.w kc H4 (s.step kc now draw).1)::.ob (Ref H4 wr (trI n (done++hd++s.L)).1)::.mem H4::F) w:=SL.into hS Xi
    clear hS
    clear hS
    have hsum:∃done' hd' j' f' bt',done'++hd'++(s.step kc now draw).1.L=done++hd++s.L ∧
      (((s.step kc now draw).2=(0,0)∧QInv kc n (s.step kc now draw).1 done' hd' j' f' bt' m t at_ last (now+1) fails (i+1)) ∨
       ((s.step kc now draw).2=(6,0)∧(s.step kc now draw).1.out=0∧QInv kc n (s.step kc now draw).1 done' hd' j' f' bt' m t at_ last now fails (i+1)) ∨
       ((s.step kc now draw).2=(7,0)∧0<(s.step kc now draw).1.out∧QInv kc n (s.step kc now draw).1 done' hd' j' f' bt' m t at_ last now (fails+1) (i+1))):=by
     cases hr:s.ready now with
     | false=>
      have e:s.step kc now draw=(s,0,0):=by unfold PWt.step;rw[hr];rfl
      rw[e]
      exact⟨done,hd,j,f,bt,rfl,.inl ⟨rfl,hQ.wait hr hne⟩⟩
     | true=>
      obtain⟨done',hd',j',f',bt',e,h⟩:=hQ.turn hmay h18 hi (draw:=draw) hr
      exact⟨done',hd',j',f',bt',e,.inr h⟩
    obtain⟨done',hd',j',f',bt',he,hcs⟩:=hsum
    generalize s.step kc now draw=y at *
    obtain⟨s',did,e⟩:=y
    simp only at he hcs hT ⊢
    rw[← he]at hT
    have hS:SL W (CB::DeskP p 0::.ob (WrO p.w kc H4 s')::.ob (Ref H4 wr (trI n (done'++hd'++s'.L)).1)::.mem H4::F) w:=hT
    have h04:=Heap.le_trans h03 h34
    have hO:∀{w:World},SL W (CB::DeskP p 0::.ob (WrO p.w kc H4 s')::.ob (Ref H4 wr (trI n (done'++hd'++s'.L)).1)::.mem H4::F) w→True:=λ_=>trivial
    rcases hcs with ⟨hde,hQ'⟩|⟨hde,ho,hQ'⟩|⟨hde,ho,hQ'⟩
    ·simp only[Prod.mk.injEq]at hde
     obtain⟨rfl,rfl⟩:=hde
     repeat first|refine Gp ?_|refine Gw λw hS=>?_|refine Gb λb w hS=>?_
     refine⟨λus w=>us=[]∧SL W (CB::DeskP p 0::.ob (WrO p.w kc H4 s')::.ob (Ref H4 wr (trI n (done'++hd'++s'.L)).1)::.mem H4::F) w,?_,?_⟩
     ·repeat first|refine Gp ?_|refine Gw λw hS=>?_|refine Gb λb w hS=>?_
      refine zf (λh=>absurd rfl h) (λ_=>?_)
      repeat first|refine Gp ?_|refine Gw λw hS=>?_|refine Gb λb w hS=>?_
      refine zf (λh=>absurd h (by decide)) (λ_=>?_)
      repeat first|refine Gp ?_|refine Gw λw hS=>?_|refine Gb λb w hS=>?_
      refine zf (λh=>absurd h (by decide)) (λ_=>⟨rfl,hS⟩)
     clear hS
     rintro w ⟨-,hS⟩
     repeat first|refine Gp ?_|refine Gw λw hS=>?_|refine Gb λb w hS=>?_
     refine zf (λh=>absurd h (by decide)) (λ_=>?_)
     repeat first|refine Gp ?_|refine Gw λw hS=>?_|refine Gb λb w hS=>?_
     refine zf (λ_=>?_) (λh=>absurd rfl h)
     repeat first|refine Gp ?_|refine Gw λw hS=>?_|refine Gb λb w hS=>?_
     exact⟨⟨last,now+1,at_,fails,i+1,H4,s',done',hd',j',f',bt',rfl,by omega,h04,hQ',hS⟩,by dsimp only;omega⟩
    ·simp only[Prod.mk.injEq]at hde
     obtain⟨rfl,rfl⟩:=hde
     repeat first|refine Gp ?_|refine Gw λw hS=>?_|refine Gb λb w hS=>?_
     refine⟨λus w=>us=[]∧SL W (CB::DeskP p 0::.ob (WrO p.w kc H4 s')::.ob (Ref H4 wr (trI n (done'++hd'++s'.L)).1)::.mem H4::F) w,?_,?_⟩
     ·repeat first|refine Gp ?_|refine Gw λw hS=>?_|refine Gb λb w hS=>?_
      refine zf (λh=>absurd rfl h) (λ_=>?_)
      repeat first|refine Gp ?_|refine Gw λw hS=>?_|refine Gb λb w hS=>?_
      refine zf (λh=>absurd h (by decide)) (λ_=>?_)
      repeat first|refine Gp ?_|refine Gw λw hS=>?_|refine Gb λb w hS=>?_
      refine zf (λ_=>?_) (λh=>absurd rfl h)
      obtain⟨ov,nv,hit,hS⟩:=WrO.open hS Xr
      repeat first|refine Gp ?_|refine Gw λw hS=>?_|refine Gb λb w hS=>?_
      (apply ze (yQ p.w.qp p.w.qb kc.cap s'.out (s'.L.map strI)) hS;exact Xp;clear hS)
      (rintro v post ⟨rfl,rfl⟩ w hS;(try simp only[app]at hS);(repeat (first|refine Gp ?_|refine Gw λw hS=>?_|refine Gb λb w hS=>?_)))
      have hS:=WrO.put (p:=p.w) (c:=kc) s' hS hit Xp
      refine zf (λh=>by rw[ho]at h;exact absurd rfl h) (λ_=>⟨rfl,SL.into hS Xi⟩)
     clear hS
     rintro w ⟨-,hS⟩
     repeat first|refine Gp ?_|refine Gw λw hS=>?_|refine Gb λb w hS=>?_
     refine zf (λh=>absurd h (by decide)) (λ_=>?_)
     repeat first|refine Gp ?_|refine Gw λw hS=>?_|refine Gb λb w hS=>?_
     refine zf (λh=>absurd h (by decide)) (λ_=>?_)
     repeat first|refine Gp ?_|refine Gw λw hS=>?_|refine Gb λb w hS=>?_
     exact⟨⟨last,now,at_,fails,i+1,H4,s',done',hd',j',f',bt',rfl,by omega,h04,hQ',hS⟩,by dsimp only;omega⟩
    ·simp only[Prod.mk.injEq]at hde
     obtain⟨rfl,rfl⟩:=hde
     repeat first|refine Gp ?_|refine Gw λw hS=>?_|refine Gb λb w hS=>?_
     refine⟨λus w=>us=[]∧SL W (CB::DeskP p 0::.ob (WrO p.w kc H4 s')::.ob (Ref H4 wr (trI n (done'++hd'++s'.L)).1)::.mem H4::F) w,?_,?_⟩
     ·repeat first|refine Gp ?_|refine Gw λw hS=>?_|refine Gb λb w hS=>?_
      refine zf (λh=>absurd rfl h) (λ_=>?_)
      repeat first|refine Gp ?_|refine Gw λw hS=>?_|refine Gb λb w hS=>?_
      refine zf (λ_=>?_) (λh=>absurd rfl h)
      obtain⟨ov,nv,hit,hS⟩:=WrO.open hS Xr
      repeat first|refine Gp ?_|refine Gw λw hS=>?_|refine Gb λb w hS=>?_
      (apply ze (yQ p.w.qp p.w.qb kc.cap s'.out (s'.L.map strI)) hS;exact Xp;clear hS)
      (rintro v post ⟨rfl,rfl⟩ w hS;(try simp only[app]at hS);(repeat (first|refine Gp ?_|refine Gw λw hS=>?_|refine Gb λb w hS=>?_)))
      have hS:=WrO.put (p:=p.w) (c:=kc) s' hS hit Xp
      refine zf (λh=>by omega) (λ_=>?_)
      repeat first|refine Gp ?_|refine Gw λw hS=>?_|refine Gb λb w hS=>?_
      refine zf (λh=>absurd h (by decide)) (λ_=>⟨rfl,SL.into hS Xi⟩)
     clear hS
     rintro w ⟨-,hS⟩
     repeat first|refine Gp ?_|refine Gw λw hS=>?_|refine Gb λb w hS=>?_
     refine zf (λ_=>?_) (λh=>absurd rfl h)
     repeat first|refine Gp ?_|refine Gw λw hS=>?_|refine Gb λb w hS=>?_
     refine zf (λh=>absurd h (by decide)) (λ_=>?_)
     repeat first|refine Gp ?_|refine Gw λw hS=>?_|refine Gb λb w hS=>?_
     exact⟨⟨last,now,at_,fails+1,i+1,H4,s',done',hd',j',f',bt',rfl,by omega,h04,hQ',hS⟩,by dsimp only;omega⟩
  ·clear hS hQ0
   rintro v13 v14 v16 w ⟨last,fails,H3,s,done,j,f,bt,hus,hfl,h03,hj,hA,hL,hout,hlst,hdw,hdl,hS⟩
   cases hus
   have hkk:=hA.kok hj hn8
   have hks:s.k.lsn=last∧s.k.ts=(trI n done).1:=by
    rcases hA.tr with h|⟨h,_⟩
    ·exact⟨by rw[← hlst];exact congrArg (·.2.2) h,congrArg (·.1) h⟩
    ·exact absurd rfl h
   repeat first|refine Gp ?_|refine Gw λw hS=>?_|refine Gb λb w hS=>?_
   refine zf (λh=>absurd rfl h) (λ_=>?_)
   obtain⟨ov,nv,hit,hS⟩:=WrO.open hS Xr
   obtain⟨hgt,hS⟩:=gate_ring hS Xr
   repeat first|refine Gp ?_|refine Gw λw hS=>?_|refine Gb λb w hS=>?_
   (apply ze (y8 p.w.qb kc.cap (s.L.map strI)) hS;exact Xp;clear hS)
   (rintro v post ⟨rfl,rfl⟩ w hS;(try simp only[app]at hS);(repeat (first|refine Gp ?_|refine Gw λw hS=>?_|refine Gb λb w hS=>?_)))
   have hS:=Gate.putP hS hgt Xp
   (apply ze (yQ p.w.qp p.w.qb kc.cap s.out (s.L.map strI)) hS;exact Xp;clear hS)
   (rintro v post ⟨rfl,rfl⟩ w hS;(try simp only[app]at hS);(repeat (first|refine Gp ?_|refine Gw λw hS=>?_|refine Gb λb w hS=>?_)))
   rw[map_len]
   have hS:=WrO.put (p:=p.w) (c:=kc) s hS hit Xp
   repeat first|refine Gp ?_|refine Gw λw hS=>?_|refine Gb λb w hS=>?_
   refine zf (λh=>by rw[hL,hout]at h;exact absurd rfl h) (λ_=>?_)
   repeat first|refine Gp ?_|refine Gw λw hS=>?_|refine Gb λb w hS=>?_
   refine zf (λh=>by omega) (λ_=>?_)
   obtain⟨ov,nv,hit,hS⟩:=WrO.open hS Xr
   repeat first|refine Gp ?_|refine Gw λw hS=>?_|refine Gb λb w hS=>?_
   (apply ze (yS p.w.kp p.w.gp p.w.dp p.w.lp p.w.pp H3 s.k) hS;exact Xp;clear hS)
   (rintro v post ⟨rfl,rfl⟩ w hS;(try simp only[app]at hS);(repeat (first|refine Gp ?_|refine Gw λw hS=>?_|refine Gb λb w hS=>?_)))
   refine zf (λh=>absurd hks.1 h) (λ_=>?_)
   have hS:=WrO.put (p:=p.w) (c:=kc) s hS hit Xp
   have hsm:small s.k.ts 0:=small_mono hkk.room (by omega)
   rw[← hks.2]at hS
   refine⟨λus w=>∃(q:Nat) (H5:Heap),us=[.int .i64 q]∧q≤n∧H3.le H5∧SL W (CB::DeskP p 0::.ob (WrO p.w kc H5 s)::.ob (Ref H5 wr s.k.ts)::.mem H5::F) w,
    λus _=>match us with|[.int _ q]=>(n-q).toNat|_=>0,⟨0,H3,rfl,by omega,Heap.le_refl H3,SL.into hS Xi⟩,?_⟩
   clear hS
   rintro v25 w ⟨q,H5,hus,hqn,h35,hS⟩
   cases hus
   rw[← hCB]at hS
   repeat first|refine Gp ?_|refine Gw λw hS=>?_|refine Gb λb w hS=>?_
   refine zf (λhq=>?_) (λhq=>?_)
   ·obtain⟨ov,nv,hit,hS⟩:=WrO.open hS Xr
    obtain⟨qv,hqv,hS⟩:=SnkO.open (k:=s.k) hS Xr
    repeat first|refine Gp ?_|refine Gw λw hS=>?_|refine Gb λb w hS=>?_
    (apply ze (YL p.w.gp s.k.ts q hsm) hS;exact Xp;clear hS)
    rintro u1 post rfl w hS
    (try simp only[app]at hS)
    repeat first|refine Gp ?_|refine Gw λw hS=>?_|refine Gb λb w hS=>?_
    (apply ze (YN H5 wr s.k.ts q hsm) hS;exact Xp;clear hS)
    rintro u2 post rfl w hS
    (try simp only[app]at hS)
    have hcl:=cellsAt_small (t:=(q:Int)) hsm
    obtain⟨H6,h56,hR1,hS⟩:=zN (H:=H5) (v:=u1) hS Xp
    obtain⟨H7,h67,hR2,hS⟩:=zN (H:=H6) (v:=u2) hS Xp
    (apply ze (plain_cell H7 u1 u2 _ _ (hR1.mono h67) hR2 (by omega)) hS;exact Xp;clear hS)
    (rintro v post ⟨rfl,rfl⟩ w hS;(try simp only[app]at hS);(repeat (first|refine Gp ?_|refine Gw λw hS=>?_|refine Gb λb w hS=>?_)))
    rw[decide_eq_true rfl]
    refine zr ?_
    repeat first|refine Gp ?_|refine Gw λw hS=>?_|refine Gb λb w hS=>?_
    have h57:=Heap.le_trans h56 h67
    have hS:=Ref.monoP h57 hS Xr
    have hS:=SnkO.put (H:=H7) s.k hS (hqv.mono h57) Xp
    have hS:=WrO.put (p:=p.w) (c:=kc) s hS (hit.mono h57) Xp
    rw[hCB]at hS
    exact⟨⟨q+1,H7,rfl,by omega,Heap.le_trans h35 h57,SL.into hS Xi⟩,by dsimp only;omega⟩
   ·exact⟨_,⟨rfl,H5,[],Heap.le_trans h03 h35,rfl⟩,SL.into hS Xi⟩
theorem writerAll_law(c:PCfg)(l:List PItem)(fs:List PFt)(ds:List Int)(ok:∀o∈l,okItemA o)(cs:Array Value)(v fv dv:Value)(w:World)(hc:tCfg.rd w Nob c cs.toList)(hl:RdS tItem w Nob l v)(hf:RdS tFt w Nob fs fv)(hd:RdS (tInt .i64) w Nob ds dv):
  Calls Tryz.prog 10 #[.agg cs,v,fv,dv] w λe w'=>e= .returned (.bool true)∧Below w.heap.size w w':=by
 obtain⟨vs,hv,hi⟩:=its_of hl
 obtain rfl:cs=(encCfg c).toArray:=by rw[← tCfg_rd hc]
 exact (yO (ZK (Heap.of w) c v fv dv l vs fs ds hv hi ok (hf.flat tFt_rd (λ_=>rfl)) hd.ints)).calls
structure WtI(c:WCf)(n:Nat)(s:PWt)(i:Nat)(now:Int):Prop where
 a:∃hd bt,AInv c n s [] hd (2*i) i bt∧hd++s.L=[it29 1]
 plan:s.k.plan=[]
 rdy:s.ready now=true
 fails:s.fails=i
theorem Ze(H:Heap)(c:PCfg)(nn draw:Int):
  Spec Tryz.prog 9 [agg (encCfg c),.int .i64 nn,.int .i64 draw] [.mem H] (λv post=>v= .bool true∧∃H' l,H.le H'∧post= .mem H'::l):=by
 intro W F w hS;apply vc9;unfold Vc9;(try simp only[app]at hS)
 refine zD hS λcb w hS=>?_
 refine zC hS Xh rfl ?_
 (apply ze (Zn c) hS;exact Xp;clear hS)
 rintro _ post ⟨rfl,rfl⟩ w hS
 (try simp only[app]at hS)
 refine zM hS Xu rfl rfl (encCfg_one _) λw hS=>?_
 refine zC hS Xh rfl ?_
 have hcf:=cfgOf_ok c
 generalize cfgOf c=cc at *
 generalize wcfOf c=kc at *
 generalize 1+md c.tables 4=n at *
 obtain⟨k0,ho,hI0,hp0,hd0,hl0,he0⟩:=PInv.first hcf.n1 hcf.n8 hcf.s0 hcf.s1
 (apply ze (yi H cc kc n hcf k0 ho he0) hS;exact Xp;clear hS)
 rintro _ post ⟨p,H1,h01,rfl,rfl⟩ w hS
 (try simp only[app]at hS)
 have hm9:=md_lt nn 9 (by decide)
 (apply ze (yn nn 9 (by decide) (by decide)) hS;exact Xp;clear hS)
 rintro _ post ⟨rfl,rfl⟩ w hS
 (try simp only[app]at hS)
 have hA:=AInv.first (c:=kc) hI0 hd0 hcf.q1 hcf.q64 hcf.b1 hcf.b64
 have hn1:=hcf.n1
 have hn8:=hcf.n8
 have hmay:=hcf.may
 have hcb:=hcf.base
 have hcm:=hcf.cm
 have hcj:=hcf.jit
 have hq1:=hcf.q1
 obtain⟨ct,cl,cs,cq,cch,cba,cb0,cm,cj,ce⟩:=cc
 simp only at hcb hcm hcj
 subst hcb hcm hcj
 unfold encCfg at hS
 generalize hK:1+(md nn 9:Int)=K at *
 repeat first|refine Gp ?_|refine Gw λw hS=>?_|refine Gb λb w hS=>?_
 refine zr ?_
 refine Zq rfl ?_
 (apply ze (yG p kc H1 (s0W k0) 0 _ (it29 1) (it29_is H1 1) (it29_may (by decide) (by decide)) hA.w) hS;exact Xp;clear hS)
 rintro _ post ⟨rfl,H2,h12,rfl⟩ w hS
 (try simp only[app]at hS)
 repeat first|refine Gp ?_|refine Gw λw hS=>?_|refine Gb λb w hS=>?_
 refine zr ?_
 have hroom:(s0W k0).L.length+(s0W k0).out<kc.cap:=hq1
 have e1:(s0W k0).put kc.cap (it29 1)={s0W k0 with L:=(s0W k0).L++[it29 1]}:=by unfold PWt.put;rw[if_pos hroom]
 have hA1:=hA.put (it29_wit (n:=1) (by decide) (by decide) n) (by show (0:Int)<1;decide) hroom
 rw[e1,if_pos hroom]at hS
 have hS:SL W (DeskP p 1::_) w:=hS
 have hW0:WtI kc n {s0W k0 with L:=(s0W k0).L++[it29 1]} 0 0:=⟨⟨[],0,hA1,rfl⟩,hp0,rfl,rfl⟩
 generalize ({s0W k0 with L:=(s0W k0).L++[it29 1]}:PWt)=s1 at *
 obtain⟨m1,m2,m3,m4,m5,m6⟩:=hmay
 generalize hCB:Chunk.pt cb [.int .i64 ct,.int .i64 cl,.int .i64 cs,.int .i64 cq,.int .i64 cch,.int .i64 cba,.int .i64 kc.b,.int .i64 kc.m,.int .i64 kc.j,.int .i64 ce] 109=CB at hS
 refine⟨λus w=>∃(i:Nat) (now:Int) (H2:Heap) (s:PWt),us=[.int .i64 now,.int .i64 ((i+1:Nat):Int)]∧(i:Int)≤K∧0≤now∧now≤2147483648*i∧H.le H2∧WtI kc n s i now∧SL W (CB::DeskP p 1::.ob (WrO p.w kc H2 s)::.mem H2::F) w,
  λus _=>match us with|[_,.int _ i]=>(K+1-i).toNat|_=>0,⟨0,0,H2,s1,rfl,by omega,by omega,by omega,Heap.le_trans h01 h12,hW0,SL.into hS Xi⟩,?_⟩
 clear hS hA hA1 hW0 hI0 hp0 hd0 hl0 he0 ho h01 e1 hroom
 rintro v9 v10 w ⟨i,now,H2,s,hus,hi,hw0,hw1,h02,⟨⟨hd,bt,hA,hhd⟩,hpl,hrdy,hfl⟩,hS⟩
 cases hus
 rw[← hCB]at hS
 repeat first|refine Gp ?_|refine Gw λw hS=>?_|refine Gb λb w hS=>?_
 refine zf (λhle=>?_) (λhle=>?_)
 ·obtain⟨ov,nv,hi',hS⟩:=WrO.open hS Xr
  repeat first|refine Gp ?_|refine Gw λw hS=>?_|refine Gb λb w hS=>?_
  (apply ze (yD p.w.kp p.w.gp p.w.dp p.w.lp p.w.pp H2 s.k) hS;exact Xp;clear hS)
  (rintro v post ⟨rfl,rfl⟩ w hS;(try simp only[app]at hS);(repeat (first|refine Gp ?_|refine Gw λw hS=>?_|refine Gb λb w hS=>?_)))
  have hS:=OwnSl.full (n:=1) (sz:=2) (cells:=(([⟨1,0⟩]:List PFt).map encFt).flatten) (t:=48) rfl hS
  obtain⟨H3,h23,hR2,hS⟩:=zN (H:=H2) hS Xp
  have hS:=SnkO.monoP h23 hS Xr
  (apply ze (yY p.w H3 s.k ⟨1,0⟩ _ hR2 (by decide) (by rw[hpl];decide)) hS;exact Xp;clear hS)
  (rintro v post ⟨rfl,rfl⟩ w hS;(try simp only[app]at hS);(repeat (first|refine Gp ?_|refine Gw λw hS=>?_|refine Gb λb w hS=>?_)))
  refine zf (λh=>absurd rfl h) (λ_=>?_)
  have hAp:=hA.push (x:=⟨1,0⟩) (by decide) (by decide)
  have hrp:({s with k:={s.k with plan:=s.k.plan++[⟨1,0⟩]}}:PWt).ready now=true:=hrdy
  have hpp:({s with k:={s.k with plan:=s.k.plan++[⟨1,0⟩]}}:PWt).k.plan=[⟨1,0⟩]:=by show s.k.plan++_=_;rw[hpl];rfl
  have hhp:hd++({s with k:={s.k with plan:=s.k.plan++[⟨1,0⟩]}}:PWt).L=[it29 1]:=hhd
  have hfp:({s with k:={s.k with plan:=s.k.plan++[⟨1,0⟩]}}:PWt).fails=i:=hfl
  have hS:=WrO.putN (p:=p.w) (c:=kc) (L:=s.L) (held:=s.held) hS (hi'.mono h23) Xp
  have hS:SL W (.ob (WrO p.w kc H3 {s with k:={s.k with plan:=s.k.plan++[⟨1,0⟩]}})::_) w:=hS
  generalize ({s with k:={s.k with plan:=s.k.plan++[⟨1,0⟩]}}:PWt)=sp at *
  obtain⟨hd',hne,he1,he2,he2',he3,hcase⟩:=hAp.step (by omega) (now:=now) (draw:=draw) hrp
  rcases hcase with ⟨hp,_⟩|⟨_,hr,hn4,hf4,ht4,bt4,hA4⟩
  ·rw[hpp]at hp;cases hp
  have hkp:=hAp.kok (by omega) hn8
  repeat first|refine Gp ?_|refine Gw λw hS=>?_|refine Gb λb w hS=>?_
  (apply ze (zU p.w kc H3 sp now draw hAp.w (by omega) hkp) hS;exact Xp;clear hS)
  rintro _ post ⟨rfl,H4,h34,rfl⟩ w hS
  (try simp only[app]at hS)
  rw[hr]
  rw[hfp]at hf4 ht4
  rw[hpp]at he3
  have hck:clkR now=now:=by unfold clkR;omega
  rw[hck]at ht4
  have hd0':0<hd'.length:=List.length_pos_iff.2 hne
  have hle4:hd'++(sp.step kc now draw).1.L=[it29 1]:=by rw[← he1];exact hhp
  generalize (sp.step kc now draw).1=s4 at *
  have hwt:waitB ((i:Int)+1) kc.b kc.m kc.j draw=dly ((i:Int)+1) kc.b kc.m+max draw 0 % (kc.j+1):=by
   unfold waitB;rw[if_pos ⟨m1,m2,m3,m4,m5,m6⟩]
  have hr1:=Int.emod_nonneg (max draw 0) (b:=kc.j+1) (by omega)
  have hr2:=Int.emod_lt_of_pos (max draw 0) (b:=kc.j+1) (by omega)
  have hdl:=@dly_in ((i:Int)+1) kc.b kc.m
  rw[hwt]at ht4
  have hii:((i+1:Nat):Int)=(i:Int)+1:=by omega
  rw[hii]
  repeat first|refine Gp ?_|refine Gw λw hS=>?_|refine Gb λb w hS=>?_
  (apply ze (YD ((i:Int)+1) kc.b kc.m) hS;exact Xp;clear hS)
  (rintro v post ⟨rfl,rfl⟩ w hS;(try simp only[app]at hS);(repeat (first|refine Gp ?_|refine Gw λw hS=>?_|refine Gb λb w hS=>?_)))
  generalize dly ((i:Int)+1) kc.b kc.m=d at *
  generalize max draw 0 % (kc.j+1)=r at *
  refine zf (λh=>absurd rfl h) (λ_=>?_)
  repeat first|refine Gp ?_|refine Gw λw hS=>?_|refine Gb λb w hS=>?_
  refine zf (λh=>absurd rfl h) (λ_=>?_)
  repeat first|refine Gp ?_|refine Gw λw hS=>?_|refine Gb λb w hS=>?_
  (apply ze (yt p.w kc H4 s4 (now+d-1)) hS;exact Xp;clear hS)
  (rintro v post ⟨rfl,rfl⟩ w hS;(try simp only[app]at hS);(repeat (first|refine Gp ?_|refine Gw λw hS=>?_|refine Gb λb w hS=>?_)))
  have q1:s4.ready (now+d-1)=false:=by unfold PWt.ready;rw[if_pos (by omega),decide_eq_false_iff_not];omega
  have q2:s4.ready (now+d+kc.j)=true:=by unfold PWt.ready;rw[if_pos (by omega),decide_eq_true_eq];omega
  rw[q1]
  refine zr ?_
  repeat first|refine Gp ?_|refine Gw λw hS=>?_|refine Gb λb w hS=>?_
  (apply ze (yt p.w kc H4 s4 (now+d+kc.j)) hS;exact Xp;clear hS)
  (rintro v post ⟨rfl,rfl⟩ w hS;(try simp only[app]at hS);(repeat (first|refine Gp ?_|refine Gw λw hS=>?_|refine Gb λb w hS=>?_)))
  rw[q2]
  refine zr ?_
  repeat first|refine Gp ?_|refine Gw λw hS=>?_|refine Gb λb w hS=>?_
  have hk4:=hA4.kok (by omega) hn8
  (apply ze (zU p.w kc H4 s4 (now+d-1) draw hA4.w (by omega) hk4) hS;exact Xp;clear hS)
  rintro _ post ⟨rfl,H5,h45,rfl⟩ w hS
  (try simp only[app]at hS)
  have e5:s4.step kc (now+d-1) draw=(s4,0,0):=by unfold PWt.step;rw[q1];rfl
  rw[e5]at hS ⊢
  repeat first|refine Gp ?_|refine Gw λw hS=>?_|refine Gb λb w hS=>?_
  refine zf (λh=>absurd rfl h) (λ_=>?_)
  repeat first|refine Gp ?_|refine Gw λw hS=>?_|refine Gb λb w hS=>?_
  refine zf (λh=>absurd rfl h) (λ_=>?_)
  repeat first|refine Gp ?_|refine Gw λw hS=>?_|refine Gb λb w hS=>?_
  rw[hCB]at hS
  have hW4:WtI kc n s4 (i+1) (now+(d+kc.j)):=⟨⟨hd',bt4,by rw[show 2*(i+1)=2*i+1+1 by omega];exact hA4,hle4⟩,he3,by rw[show now+(d+kc.j)=now+d+kc.j by omega];exact q2,by rw[hf4];omega⟩
  refine⟨⟨i+1,now+(d+kc.j),H5,s4,?_,by omega,by omega,by omega,Heap.le_trans h02 (Heap.le_trans h23 (Heap.le_trans h34 h45)),hW4,?_⟩,by dsimp only;omega⟩
  ·rw[show (i:Int)+1+1=((i+1+1:Nat):Int) by omega]
  ·exact SL.into hS Xi
 ·repeat first|refine Gp ?_|refine Gw λw hS=>?_|refine Gb λb w hS=>?_
  have hk:=hA.kok (by omega) hn8
  (apply ze (zU p.w kc H2 s now draw hA.w (by omega) hk) hS;exact Xp;clear hS)
  rintro _ post ⟨rfl,H3,h23,rfl⟩ w hS
  (try simp only[app]at hS)
  obtain⟨hd',hne,he1,he2,he2',he3,hcase⟩:=hA.step (by omega) (now:=now) (draw:=draw) hrdy
  rcases hcase with ⟨hp,hr,hn5,ho5,hf5,bt5,_,_,hA5⟩|⟨hp,_⟩
  ·rw[hr]
   have hhd':hd'=[it29 1]:=by
    rw[hhd]at he1
    match hd',hne,he1 with
    | [a],_,he1=>
     simp only[List.cons_append,List.nil_append]at he1
     injection he1 with h1 _
     rw[← h1]
    | a::b::r,_,he1=>
     injection he1 with _ h2
     cases h2
   have hlsn:(s.step kc now draw).1.k.lsn=1:=by
    rcases hA5.tr with h|⟨h,_⟩
    ·rw[hhd']at h;exact congrArg (·.2.2) h
    ·exact absurd rfl h
   generalize (s.step kc now draw).1=s5 at *
   repeat first|refine Gp ?_|refine Gw λw hS=>?_|refine Gb λb w hS=>?_
   (apply ze (yj) hS;exact Xp;clear hS)
   (rintro v post ⟨rfl,rfl⟩ w hS;(try simp only[app]at hS);(repeat (first|refine Gp ?_|refine Gw λw hS=>?_|refine Gb λb w hS=>?_)))
   refine zf (λ_=>?_) (λh=>absurd rfl h)
   repeat first|refine Gp ?_|refine Gw λw hS=>?_|refine Gb λb w hS=>?_
   refine zf (λ_=>?_) (λh=>absurd rfl h)
   obtain⟨ov,nv,hi',hS⟩:=WrO.open hS Xr
   repeat first|refine Gp ?_|refine Gw λw hS=>?_|refine Gb λb w hS=>?_
   (apply ze (yS p.w.kp p.w.gp p.w.dp p.w.lp p.w.pp H3 s5.k) hS;exact Xp;clear hS)
   (rintro v post ⟨rfl,rfl⟩ w hS;(try simp only[app]at hS);(repeat (first|refine Gp ?_|refine Gw λw hS=>?_|refine Gb λb w hS=>?_)))
   refine zf (λ_=>?_) (λh=>absurd hlsn h)
   repeat first|refine Gp ?_|refine Gw λw hS=>?_|refine Gb λb w hS=>?_
   (apply ze (YO p.w.rp kc.b kc.m kc.j s5.fails s5.til) hS;exact Xp;clear hS)
   (rintro v post ⟨rfl,rfl⟩ w hS;(try simp only[app]at hS);(repeat (first|refine Gp ?_|refine Gw λw hS=>?_|refine Gb λb w hS=>?_)))
   rw[decide_eq_true hf5]
   exact⟨_,⟨rfl,H3,[],Heap.le_trans h02 h23,rfl⟩,SL.into hS Xi⟩
  ·exact absurd hpl hp
theorem writerWaits_law(c:PCfg)(nn draw:Int)(cs:Array Value)(w:World)(hc:tCfg.rd w Nob c cs.toList):
  Calls Tryz.prog 9 #[.agg cs,.int .i64 nn,.int .i64 draw] w λe w'=>e= .returned (.bool true)∧Below w.heap.size w w':=by
 obtain rfl:cs=(encCfg c).toArray:=by rw[← tCfg_rd hc]
 exact (yO (Ze (Heap.of w) c nn draw)).calls
structure NB(n m bt dl i:Nat)(rest:List PItem):Prop where
 d:dl=min (bt*n) m
 len:dl+rest.length=m
 lo:bt=0∨(bt-1)*n<m
 ile:bt≤i
 or:bt=i∨rest=[]
theorem NB.step{n m bt dl i:Nat}{rest:List PItem}(h:NB n m bt dl i rest)(hn:1≤n)(hr:0<rest.length):NB n m (bt+1) (dl+(rest.take n).length) (i+1) (rest.drop n):=by
 obtain⟨h1,h2,h3,h4,h5⟩:=h
 have hbi:bt=i:=by
  rcases h5 with h|h
  ·exact h
  ·rw[h]at hr;exact absurd hr (by simp)
 have e:(bt+1)*n=bt*n+n:=by rw[Nat.add_mul,Nat.one_mul]
 have e2:bt+1-1=bt:=by omega
 refine⟨?_,?_,?_,by omega,.inl (by omega)⟩
 ·rw[List.length_take,e];omega
 ·rw[List.length_take,List.length_drop];omega
 ·right;rw[e2];omega
theorem NB.stay{n m bt dl i:Nat}{rest:List PItem}(h:NB n m bt dl i rest)(hr:rest=[]):NB n m bt dl (i+1) rest:=⟨h.d,h.len,h.lo,by have:=h.ile;omega,.inr hr⟩
theorem NB.fin{n m bt dl i:Nat}{rest:List PItem}(h:NB n m bt dl i rest)(hn:1≤n)(hi:i=m):rest=[]∧(m+n-1) / n=bt:=by
 obtain⟨h1,h2,h3,h4,h5⟩:=h
 have hb:bt=m→m≤bt*n:=λe=>by rw[e];exact Nat.le_mul_of_pos_right _ hn
 have hrest:rest=[]:=by
  rcases h5 with h|h
  ·have:=hb (by omega)
   exact List.eq_nil_of_length_eq_zero (by omega)
  ·exact h
 have hle:m≤bt*n:=by
  have:rest.length=0:=by rw[hrest];rfl
  omega
 refine⟨hrest,Nat.div_eq_of_lt_le ?_ ?_⟩
 ·rcases h3 with h|h
  ·rw[h];omega
  ·have e:bt*n=(bt-1)*n+n∨bt=0:=by
    cases bt with
    | zero=>exact .inr rfl
    | succ k=>left;rw[Nat.add_mul,Nat.one_mul];rfl
   rcases e with e|e
   ·omega
   ·rw[e];omega
 ·rw[Nat.add_mul,Nat.one_mul];omega
abbrev nwc(m:Nat):WCf:=⟨30,m,1,1,0⟩
theorem AInv.most{a b:Nat}{n:Nat}{s:PWt}{done hd:List PItem}{j f bt:Nat}(h:AInv (nwc a) n s done hd j f bt)(h1:1≤b)(h2:b≤64):AInv (nwc b) n s done hd j f bt:=
 ⟨⟨h.w.cap1,h.w.cap,h1,h2,h.w.it,h.w.rise,h.w.room,h.w.out,h.w.held,h.w.f0,h.w.f1⟩,h.it,h.rise,h.hn,h.held,h.up,h.p,h.tr⟩
theorem Zy(H:Heap)(nn:Int)(v:Value)(l:List PItem)(vs:List ItV)(hv:RdSl H 3 v l.length (vs.map encIt).flatten)(hi:Its H vs l)(hok:∀x∈l,okItemA x):
  Spec Tryz.prog 8 [.int .i64 nn,v] [.mem H] (λv post=>v= .bool true∧∃H' l,H.le H'∧post= .mem H'::l):=by
 intro W F w hS;apply vc8;unfold Vc8;(try simp only[app]at hS)
 obtain⟨k0,ho,hI0,hp0,hd0,hl0,he0⟩:=PInv.first (n:=2) (by decide) (by decide) (size:=1000) (by decide) (by decide)
 refine Zq rfl ?_
 (apply ze (yi H ⟨2,0,1000,30,0,1,1,1,0,0⟩ (nwc 1) 2 ⟨by decide,by decide,rfl,by decide,by decide,rfl,by decide,by decide,rfl,by decide,by decide,rfl,rfl,rfl,by decide⟩ k0 ho he0) hS;exact Xp;clear hS)
 rintro _ post ⟨p,H1,h01,rfl,rfl⟩ w hS
 (try simp only[app]at hS)
 repeat first|refine Gp ?_|refine Gw λw hS=>?_|refine Gb λb w hS=>?_
 refine zr ?_
 have hA:=AInv.first (c:=nwc 1) hI0 hd0 (by decide) (by decide) (by decide) (by decide)
 have hlen:=hi.len
 repeat first|refine Gp ?_|refine Gw λw hS=>?_|refine Gb λb w hS=>?_
 by_cases hn:nn<1∨64<nn
 ·(apply ze (wnew_bad p.w.kp p.w.qp p.w.rp nn hn) hS;exact Xp;clear hS)
  rintro _ post ⟨rfl,rfl⟩ w hS
  (try simp only[app]at hS)
  repeat first|refine Gp ?_|refine Gw λw hS=>?_|refine Gb λb w hS=>?_
  refine⟨λus w=>us=[.bool false]∧SL W (.mem H1::F) w,?_,?_⟩
  ·repeat first|refine Gp ?_|refine Gw λw hS=>?_|refine Gb λb w hS=>?_
   refine zf (λh1=>?_) (λh1=>⟨rfl,SL.into hS Xi⟩)
   repeat first|refine Gp ?_|refine Gw λw hS=>?_|refine Gb λb w hS=>?_
   rw[decide_eq_false (by omega)]
   exact⟨rfl,SL.into hS Xi⟩
  clear hS
  rintro _ w ⟨hus,hS⟩
  cases hus
  refine⟨λus w=>us=[]∧SL W (.mem H1::F) w,?_,?_⟩
  ·repeat first|refine Gp ?_|refine Gw λw hS=>?_|refine Gb λb w hS=>?_
   refine zr ?_
   repeat first|refine Gp ?_|refine Gw λw hS=>?_|refine Gb λb w hS=>?_
   refine zr ?_
   repeat first|refine Gp ?_|refine Gw λw hS=>?_|refine Gb λb w hS=>?_
   refine zx ?_
   repeat first|refine Gp ?_|refine Gw λw hS=>?_|refine Gb λb w hS=>?_
   refine zf (λh=>absurd rfl h) (λ_=>⟨rfl,hS⟩)
  clear hS
  rintro w ⟨-,hS⟩
  repeat first|refine Gp ?_|refine Gw λw hS=>?_|refine Gb λb w hS=>?_
  refine zx ?_
  (apply ze (yj) hS;exact Xp;clear hS)
  (rintro v post ⟨rfl,rfl⟩ w hS;(try simp only[app]at hS);(repeat (first|refine Gp ?_|refine Gw λw hS=>?_|refine Gb λb w hS=>?_)))
  exact⟨_,⟨rfl,H1,[],h01,rfl⟩,SL.into hS Xi⟩
 obtain⟨n,rfl⟩:∃n:Nat,nn=(n:Int):=⟨nn.toNat,by omega⟩
 have hn1:1≤n:=by omega
 have hn2:n≤64:=by omega
 (apply ze (wnew_ok p.w.kp p.w.qp p.w.rp n hn1 hn2) hS;exact Xp;clear hS)
 rintro _ post ⟨wp,rfl,rfl⟩ w hS
 (try simp only[app]at hS)
 repeat first|refine Gp ?_|refine Gw λw hS=>?_|refine Gb λb w hS=>?_
 have hS:SL W (.pt wp (wtcells p.w.kp p.w.qp p.w.rp n it0.lsn (.slice none 0 0) (.slice none 0 0) 0) 236::_) w:=hS
 generalize hWP:Chunk.pt wp (wtcells p.w.kp p.w.qp p.w.rp n it0.lsn (.slice none 0 0) (.slice none 0 0) 0) 236=WP at hS
 have hS:=SL.into hS (t:=WP::DeskP p 0::.ob (WrO p.w (nwc 1) H1 (s0W k0))::.ob (RWrO p.r (nwc 1) H1 (s0W k0))::.mem H1::F) Xi
 refine⟨λus w=>us=[.bool true]∧SL W (WP::DeskP p 0::.ob (WrO p.w (nwc 1) H1 (s0W k0))::.ob (RWrO p.r (nwc 1) H1 (s0W k0))::.mem H1::F) w,?_,?_⟩
 ·repeat first|refine Gp ?_|refine Gw λw hS=>?_|refine Gb λb w hS=>?_
  refine zf (λh1=>?_) (λh1=>by omega)
  repeat first|refine Gp ?_|refine Gw λw hS=>?_|refine Gb λb w hS=>?_
  rw[decide_eq_true (by omega)]
  exact⟨rfl,hS⟩
 clear hS
 rintro _ w ⟨hus,hS⟩
 cases hus
 refine⟨λus w=>us=[]∧SL W (WP::DeskP p 0::.ob (WrO p.w (nwc 1) H1 (s0W k0))::.ob (RWrO p.r (nwc 1) H1 (s0W k0))::.mem H1::F) w,?_,?_⟩
 ·repeat first|refine Gp ?_|refine Gw λw hS=>?_|refine Gb λb w hS=>?_
  refine zr ?_
  repeat first|refine Gp ?_|refine Gw λw hS=>?_|refine Gb λb w hS=>?_
  refine zr ?_
  repeat first|refine Gp ?_|refine Gw λw hS=>?_|refine Gb λb w hS=>?_
  refine zr ?_
  exact⟨rfl,hS⟩
 clear hS
 rintro w ⟨-,hS⟩
 repeat first|refine Gp ?_|refine Gw λw hS=>?_|refine Gb λb w hS=>?_
 refine zr ?_
 refine zt hv ?_
 repeat first|refine Gp ?_|refine Gw λw hS=>?_|refine Gb λb w hS=>?_
 have hmin:min (l.length:Int) 30=((min l.length 30:Nat):Int):=by omega
 rw[hmin]
 have hm30:min l.length 30≤30:=Nat.min_le_right _ _
 have hml:min l.length 30≤l.length:=Nat.min_le_left _ _
 generalize min l.length 30=m at *
 have hw0:(s0W k0).n=0∧(s0W k0).out=0∧(s0W k0).k.plan=[]:=⟨rfl,rfl,hp0⟩
 refine⟨λus w=>∃(i lsn:Nat) (H2:Heap) (s:PWt),us=[.int .i64 i]∧i≤m∧lsn≤3*i∧H.le H2∧AInv (nwc 1) 2 s [] [] 0 0 0∧s.L.length=i∧lastL 0 s.L=lsn∧(s.n=0∧s.out=0∧s.k.plan=[])∧SL W (WP::DeskP p lsn::.ob (WrO p.w (nwc 1) H2 s)::.ob (RWrO p.r (nwc 1) H2 s)::.mem H2::F) w,
  λus _=>match us with|[.int _ i]=>(m-i).toNat|_=>0,⟨0,0,H1,s0W k0,rfl,by omega,by omega,h01,hA,rfl,rfl,hw0,hS⟩,?_⟩
 clear hS hA hI0 hp0 hd0 hl0 he0 ho h01 hw0
 rintro v10 w ⟨i,lsn,H2,s,hus,him,hlsn,h02,hA,hL,hlast,⟨hn0,ho0,hpl⟩,hS⟩
 cases hus
 repeat first|refine Gp ?_|refine Gw λw hS=>?_|refine Gb λb w hS=>?_
 refine zf (λh=>?_) (λh=>?_)
 ·have hil:i<l.length:=by omega
  have hiv:i<vs.length:=by omega
  have hx:=(hi.at_ i hiv hil).mono h02
  have hokx:=hok _ (List.getElem_mem hil)
  repeat first|refine Gp ?_|refine Gw λw hS=>?_|refine Gb λb w hS=>?_
  refine zL hS Xh encIt_len (hv.mono h02) (List.getElem?_eq_getElem hiv) hil ?_
  generalize vs[i]=x at *
  generalize l[i]=t at *
  repeat first|refine Gp ?_|refine Gw λw hS=>?_|refine Gb λb w hS=>?_
  have hm3:=md_lt t.lsn 3 (by decide)
  (apply ze (ZR H2 x t hx 2 lsn (by decide) (by decide) (by omega) hokx.nops) hS;exact Xp;clear hS)
  rintro _ post ⟨ov,H3,h23,rfl,hops,rfl⟩ w hS
  (try simp only[app]at hS)
  have hq:=piOf_wit t 2 lsn (by decide) (by decide) (by omega)
  have hzi:ItIs H3 ⟨(piOf t 2 lsn).lsn,ov,.slice none 0 0⟩ (piOf t 2 lsn):=⟨rfl,hops,RdSl.nil _ _⟩
  have hzl:(piOf t 2 lsn).lsn=((lsn+1+md t.lsn 3:Nat):Int):=rfl
  generalize piOf t 2 lsn=z at *
  have hS:=WrO.monoP h23 hS Xr
  have hS:=RWrO.monoP h23 hS Xr
  have hroom:s.L.length+s.out<(nwc 1).cap:=by rw[hL,ho0];show i+0<30;omega
  have e1:s.put (nwc 1).cap z={s with L:=s.L++[z]}:=by unfold PWt.put;rw[if_pos hroom]
  have hA1:=hA.put hq (by show lastL 0 ([]++[]++s.L)<z.lsn;rw[List.append_nil,List.nil_append,hlast,hzl];omega) hroom
  (apply ze (yG p (nwc 1) H3 s lsn ⟨z.lsn,ov,.slice none 0 0⟩ z hzi hq.may hA.w) hS;exact Xp;clear hS)
  rintro _ post ⟨rfl,H4,h34,rfl⟩ w hS
  (try simp only[app]at hS)
  rw[e1,if_pos hroom,hzl]at hS
  repeat first|refine Gp ?_|refine Gw λw hS=>?_|refine Gb λb w hS=>?_
  refine zr ?_
  repeat first|refine Gp ?_|refine Gw λw hS=>?_|refine Gb λb w hS=>?_
  refine⟨⟨i+1,lsn+1+md t.lsn 3,H4,{s with L:=s.L++[z]},rfl,by omega,by omega,Heap.le_trans h02 (Heap.le_trans h23 h34),hA1,?_,?_,⟨hn0,ho0,hpl⟩,SL.into hS Xi⟩,by dsimp only;omega⟩
  ·show (s.L++[z]).length=i+1
   rw[List.length_append,List.length_singleton,hL]
  ·show lastL 0 (s.L++[z])=_
   rw[lastL_snoc,hzl]
 ·have hie:i=m:=by omega
  subst hie
  have hA2:=hA.most hn1 hn2
  obtain⟨ov,nv,hit,hS⟩:=WrO.open hS Xr
  rw[← hWP]at hS
  have hheld:s.held=it0:=by rw[hA.held];rfl
  obtain⟨sk,sL,sout,sf,stl,sheld,sn⟩:=s
  simp only at hheld hn0 ho0 hL hlast
  subst hheld hn0
  have hS:=WrO.putN (p:=⟨wp,p.w.kp,p.w.gp,p.w.dp,p.w.lp,p.w.pp,p.w.qp,p.w.qb,p.w.rp⟩) (c:=nwc n) (H:=H2) (k:=sk) (L:=sL) (out:=sout) (fails:=sf) (til:=stl) (held:=it0) (n:=0) (ov:=.slice none 0 0) (nv:=.slice none 0 0) hS ⟨rfl,RdSl.nil _ _,RdSl.nil _ _⟩ Xp
  have hNB:NB n i 0 0 0 sL:=⟨by simp,by omega,.inl rfl,Nat.le_refl _,.inl rfl⟩
  refine⟨λus w=>∃(t bt:Nat) (H3:Heap) (s:PWt) (done:List PItem),us=[.int .i64 t]∧t≤i∧H.le H3∧AInv (nwc n) 2 s done [] t t bt∧NB n i bt done.length t s.L∧s.n=0∧s.k.plan=[]∧done++s.L=sL∧SL W (DeskP p lsn::.ob (WrO ⟨wp,p.w.kp,p.w.gp,p.w.dp,p.w.lp,p.w.pp,p.w.qp,p.w.qb,p.w.rp⟩ (nwc n) H3 s)::.mem H3::F) w,
   λus _=>match us with|[.int _ t]=>(i-t).toNat|_=>0,⟨0,0,H2,_,[],rfl,by omega,h02,hA2,hNB,rfl,hpl,rfl,SL.into hS Xi⟩,?_⟩
  clear hS hA hA2 hNB hit
  rintro v11 w ⟨t,bt,H3,s,done,hus,hti,h03,hA,hNB,hn0,hpl,hdn,hS⟩
  cases hus
  repeat first|refine Gp ?_|refine Gw λw hS=>?_|refine Gb λb w hS=>?_
  refine zf (λh=>?_) (λh=>?_)
  ·have hk:=hA.kok (by omega) (by decide)
   repeat first|refine Gp ?_|refine Gw λw hS=>?_|refine Gb λb w hS=>?_
   (apply ze (zU ⟨wp,p.w.kp,p.w.gp,p.w.dp,p.w.lp,p.w.pp,p.w.qp,p.w.qb,p.w.rp⟩ (nwc n) H3 s 0 0 hA.w (by omega) hk) hS;exact Xp;clear hS)
   rintro _ post ⟨rfl,H4,h34,rfl⟩ w hS
   (try simp only[app]at hS)
   repeat first|refine Gp ?_|refine Gw λw hS=>?_|refine Gb λb w hS=>?_
   by_cases hr:s.ready 0=true
   ·obtain⟨hd',hne,he1,he2,_,he3,hcase⟩:=hA.step (by omega) (now:=0) (draw:=0) hr
    rcases hcase with ⟨hp,hre,hn5,ho5,hf5,bt5,_,hbt,hA5⟩|⟨hp,_⟩
    ·have hb:=hbt hn0
     have hd:=he2 hn0
     subst hb
     have hLr:0<s.L.length:=by
      unfold PWt.ready at hr
      rw[hn0,if_neg (by decide),decide_eq_true_eq]at hr
      exact hr
     have hL5:(s.step (nwc n) 0 0).1.L=s.L.drop n:=by
      rw[hd,List.nil_append]at he1
      have h2:s.L.take (nwc n).most++s.L.drop n=s.L.take (nwc n).most++(s.step (nwc n) 0 0).1.L:=by rw[← he1];exact List.take_append_drop n s.L
      exact (List.append_cancel_left h2).symm
     have hN:=hNB.step hn1 hLr
     have hd:hd'=s.L.take n:=hd
     have hp5:(s.step (nwc n) 0 0).1.k.plan=[]:=by rw[he3,hpl];rfl
     refine⟨⟨t+1,bt+1,H4,_,done++hd',rfl,by omega,Heap.le_trans h03 h34,hA5,?_,hn5,hp5,?_,SL.into hS Xi⟩,by dsimp only;omega⟩
     ·rw[hL5,List.length_append,hd];exact hN
     ·rw[hL5,hd,List.append_assoc,List.take_append_drop];exact hdn
    ·exact absurd hpl hp
   ·have e5:s.step (nwc n) 0 0=(s,0,0):=by unfold PWt.step;rw[if_neg hr]
    rw[e5]at hS
    have hLe:s.L=[]:=by
     unfold PWt.ready at hr
     rw[hn0,if_neg (by decide),decide_eq_true_eq]at hr
     exact List.eq_nil_of_length_eq_zero (by omega)
    have hA1:AInv (nwc n) 2 s done [] (t+1) (t+1) bt:=by
     obtain⟨xs,m',hP,hb⟩:=hA.p
     exact⟨hA.w.mono (by omega),hA.it,hA.rise,hA.hn,hA.held,hA.up,⟨xs,m',hP.mono (by omega),hb⟩,hA.tr⟩
    exact⟨⟨t+1,bt,H4,s,done,rfl,by omega,Heap.le_trans h03 h34,hA1,hNB.stay hLe,hn0,hpl,hdn,SL.into hS Xi⟩,by dsimp only;omega⟩
  ·obtain⟨hLe,hdiv⟩:=hNB.fin hn1 (by omega)
   have hk:=hA.kok (by omega) (by decide)
   have hle:=hk.le
   obtain⟨xs,m',hP,hb⟩:=hA.p
   have hbl:=hP.len2 hA.up.off
   have hls:s.k.lsn=lsn:=by
    rw[hLe,List.append_nil]at hdn
    rcases hA.tr with h|⟨h,_⟩
    ·have h2:s.k.lsn=lastL 0 done:=congrArg (·.2.2) h
     rw[h2,hdn,hlast]
    ·exact absurd rfl h
   repeat first|refine Gp ?_|refine Gw λw hS=>?_|refine Gb λb w hS=>?_
   (apply ze (yj) hS;exact Xp;clear hS)
   (rintro v post ⟨rfl,rfl⟩ w hS;(try simp only[app]at hS);(repeat (first|refine Gp ?_|refine Gw λw hS=>?_|refine Gb λb w hS=>?_)))
   obtain⟨ov,nv,hit,hS⟩:=WrO.open hS Xr
   repeat first|refine Gp ?_|refine Gw λw hS=>?_|refine Gb λb w hS=>?_
   refine s_quo (by omega) ?_ ?_
   ·rw[Int.tdiv_eq_ediv_of_nonneg (by omega)]
    have h1:=Int.ediv_nonneg (a:=((i+n:Nat):Int)-1) (b:=n) (by omega) (by omega)
    have h2:=Int.ediv_le_self (a:=((i+n:Nat):Int)-1) (n:Int) (by omega)
    omega
   have e:(((i+n:Nat):Int)-1).tdiv (n:Int)=(bt:Int):=by
    rw[Int.tdiv_eq_ediv_of_nonneg (by omega),show ((i+n:Nat):Int)-1=((i+n-1:Nat):Int) by omega,← Int.natCast_ediv,hdiv]
   rw[e]
   (apply ze (yx p.w.kp p.w.gp p.w.dp p.w.lp p.w.pp H3 s.k hk.g (by omega)) hS;exact Xp;clear hS)
   (rintro v post ⟨rfl,rfl⟩ w hS;(try simp only[app]at hS);(repeat (first|refine Gp ?_|refine Gw λw hS=>?_|refine Gb λb w hS=>?_)))
   rw[hbl,hb]
   refine zf (λ_=>?_) (λh=>absurd rfl h)
   repeat first|refine Gp ?_|refine Gw λw hS=>?_|refine Gb λb w hS=>?_
   (apply ze (yS p.w.kp p.w.gp p.w.dp p.w.lp p.w.pp H3 s.k) hS;exact Xp;clear hS)
   (rintro v post ⟨rfl,rfl⟩ w hS;(try simp only[app]at hS);(repeat (first|refine Gp ?_|refine Gw λw hS=>?_|refine Gb λb w hS=>?_)))
   rw[decide_eq_true hls]
   exact⟨_,⟨rfl,H3,[],h03,rfl⟩,SL.into hS Xi⟩
theorem Qs(nn:Int)(l:List PItem)(ok:∀o∈l,okItemA o)(v:Value)(w:World)(hl:RdS tItem w Nob l v):
  Calls Tryz.prog 8 #[.int .i64 nn,v] w λe w'=>e= .returned (.bool true)∧Below w.heap.size w w':=by
 obtain⟨vs,hv,hi⟩:=its_of hl
 exact (yO (Zy (Heap.of w) nn v l vs hv hi ok)).calls
end Go.Proofs.YtnmhmnnadkclbaaGreat
