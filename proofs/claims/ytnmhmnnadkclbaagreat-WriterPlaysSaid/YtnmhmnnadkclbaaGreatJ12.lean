/-
  Texts of the proof, joined: StrS, ItsM, WrS, WrS2, WrS3, WrR, SameI, Law29P, Cfg, Law29, Law29W, Law18F, Law18H, Law29T, Law29L, Law29Q, Law29A, Law29X, Law29N.
-/
import Derived.Test.YtnmhmnnadkclbaaGreatJ11
import Derived.Lib.ConvBytes
import Derived.Laws.AppendOwn
namespace Go.Proofs.YtnmhmnnadkclbaaGreat
set_option linter.unusedVariables false
open Go.RowKit
section
variable {W w:World} {l:List Chunk} {P:Program}
theorem ZY{src dst e:TypeId}{u:TypeDesc}{bs:List UInt8}{K:Value→World→Prop}(hS:SL W l w)(h1:P.underlying src=some u)(h2:P.underlying dst=some (.slice e))(h3:P.underlying e=some (.int .u8))
  (h:∀v w',SL W (.ob (OwnSl v e 1 bs.length (bs.map u8c))::l) w'→K v w'):yr P (convert src dst (.string (bstr bs))) w K:=by
 refine⟨_,_,Lib.run_convert_string_bytes w src dst e (bstr bs) h1 h2 h3,h _ _ ?_⟩
 have hg:(bstr bs).size≤grownCap w (bstr bs).size 0 e:=grownCap_ge _ _ _ _
 have e1:(Lib.bytesCells w e (bstr bs)).toList=bs.map u8c++List.replicate (grownCap w bs.length 0 e-bs.length) (.int .u8 0):=by
  unfold Lib.bytesCells
  rw[bstr_size]
  simp[bstr,u8c]
 have hn:SL W (.pt w.heap.size (Lib.bytesCells w e (bstr bs)).toList e::l) (w.drew.alloc (.cells (Lib.bytesCells w e (bstr bs)) e)):=by
  have:=(hS.drew).new (cs:=(Lib.bytesCells w e (bstr bs)).toList) (t:=e)
  simpa using this
 have hm:=hn.mark (n:=(Lib.bytesCells w e (bstr bs)).size) .hd (by simp)
 rw[e1]at hm
 rw[bstr_size]at hg ⊢
 exact OwnSl.mk hg (by simp) (by simp) hm
end
structure Its(H:Heap)(vs:List ItV)(zs:List PItem):Prop where
 len:vs.length=zs.length
 at_:∀j (h:j<vs.length) (h':j<zs.length),ItIs H vs[j] zs[j]
theorem Its.mono{H H':Heap}(hh:H.le H'){vs:List ItV}{zs:List PItem}(h:Its H vs zs):Its H' vs zs:=⟨h.len,λj a b=>(h.at_ j a b).mono hh⟩
theorem Its.snoc{H:Heap}{vs:List ItV}{zs:List PItem}(h:Its H vs zs){x:ItV}{z:PItem}(hx:ItIs H x z):Its H (vs++[x]) (zs++[z]):=by
 have hl:=h.len
 refine⟨by simp[hl],λj a b=>?_⟩
 by_cases hj:j<vs.length
 ·rw[List.getElem_append_left hj,List.getElem_append_left (by omega)]
  exact h.at_ j hj (by omega)
 ·have e:j=vs.length:=by rw[List.length_append,List.length_singleton]at a;omega
  subst e
  rw[List.getElem_append_right (Nat.le_refl _),List.getElem_append_right (by omega)]
  simpa [hl] using hx
set_option maxRecDepth 100000
def strI(x:PItem):ByteArray:=bstr (bytesItem x)
theorem rise_at:∀{l:List PItem} {b:Int} {i:Nat} (h:RiseI b l) (hi:i<l.length),lastL b (l.take i)<l[i].lsn
 | [],_,_,_,hi=>absurd hi (by simp)
 | x::l,b,0,h,_=>h.1
 | x::l,b,i+1,h,hi=>rise_at (l:=l) (b:=x.lsn) h.2 (by simpa using hi)
structure JRow(tabs:Nat)(zs:List PItem):Prop where
 it:∀x∈zs,WIt tabs x
 rise:RiseI 0 zs
 le:zs.length≤64
theorem JRow.at{tabs:Nat}{zs:List PItem}(h:JRow tabs zs)(i:Nat)(hi:i≤zs.length):JOk tabs (joinL (zs.take i)) i:=by
 have:=joinL_ok (n:=tabs) (l:=zs.take i) (λx hx=>h.it x (List.mem_of_mem_take hx)) (h.rise.take i)
 rw[List.length_take,Nat.min_eq_left hi]at this
 exact this
theorem JRow.lt{tabs:Nat}{zs:List PItem}(h:JRow tabs zs){i:Nat}(hi:i<zs.length):(joinL (zs.take i)).lsn<zs[i].lsn:=by
 rw[joinL_lsn];exact rise_at h.rise hi
theorem OpO.add{W w:World}{l:List Chunk}{v:Value}{A B:List AOp}(h:SL W (.ob (OwnSl v 96 5 (A.length+B.length) ((A.map encOp).flatten++(B.map encOp).flatten))::l) w):SL W (OpO v (A++B)::l) w:=by
 rw[show OpO v (A++B)= .ob (OwnSl v 96 5 (A.length+B.length) ((A.map encOp).flatten++(B.map encOp).flatten)) by simp[OpO]]
 exact h
theorem NtO.add{W w:World}{l:List Chunk}{v:Value}{A B:List PNote}(h:SL W (.ob (OwnSl v 98 7 (A.length+B.length) ((A.map encNote).flatten++(B.map encNote).flatten))::l) w):SL W (NtO v (A++B)::l) w:=by
 rw[show NtO v (A++B)= .ob (OwnSl v 98 7 (A.length+B.length) ((A.map encNote).flatten++(B.map encNote).flatten)) by simp[NtO]]
 exact h
theorem ops_one(A:List AOp):∀v∈(A.map encOp).flatten,v.oneCell'=true:=λv hv=>by
 obtain⟨l,hl,h⟩:=List.mem_flatten.1 hv
 obtain⟨o,_,rfl⟩:=List.mem_map.1 hl
 exact encOp_one o v h
theorem nts_one(A:List PNote):∀v∈(A.map encNote).flatten,v.oneCell'=true:=λv hv=>by
 obtain⟨l,hl,h⟩:=List.mem_flatten.1 hv
 obtain⟨o,_,rfl⟩:=List.mem_map.1 hl
 exact encNote_one o v h
theorem qz(H:Heap)(v:Value)(vs:List ItV)(zs:List PItem)(hv:RdSl H 3 v vs.length (vs.map encIt).flatten)(hi:Its H vs zs){tabs:Nat}(hj:JRow tabs zs)(hne:zs≠[]):
  SP 199 [v] [.mem H] (λu post=>∃xv H',H.le H'∧u= .tuple #[agg (encIt xv),.int .i64 0]∧ItIs H' xv (joinL zs)∧post=[.mem H']):=by
 intro W F w hS;apply vc199;unfold Vc199;(try simp only[app]at hS)
 have hlen:=hi.len
 have h64:=hj.le
 refine Gb λrb w hS=>?_
 refine Gb λob w hS=>?_
 refine zq hv ?_
 have hS:=OwnSl.nil (t:=96) (sz:=5) hS
 have hS:=OwnSl.nil (t:=98) (sz:=7) hS
 have hS:SL W (NtO (.slice none 0 0) (joinL (zs.take 0)).notes::OpO (.slice none 0 0) (joinL (zs.take 0)).ops::.pt ob [.int .i64 (joinL (zs.take 0)).lsn,.slice none 0 0,.slice none 0 0] 46::_) _:=hS
 refine⟨λus w=>∃(i:Nat) (ov nv:Value),us=[.bool true,.int .i64 i]∧i≤zs.length∧SL W (OpO ov (joinL (zs.take i)).ops::NtO nv (joinL (zs.take i)).notes::.pt ob [.int .i64 (joinL (zs.take i)).lsn,ov,nv] 46::.pt rb [.int .i64 0,.slice none 0 0,.slice none 0 0] 46::.mem H::F) w,
  λus _=>match us with|[_,.int _ i]=>(zs.length-i).toNat|_=>0,⟨0,.slice none 0 0,.slice none 0 0,rfl,Nat.zero_le _,SL.into hS Xi⟩,?_⟩
 clear hS
 rintro v5 v10 w ⟨i,ov,nv,hus,hil,hS⟩
 cases hus
 repeat first|refine Gp ?_|refine Gw λw hS=>?_|refine Gb λb w hS=>?_
 have hji:=hj.at i hil
 refine ze (λh=>?_) (λh=>?_)
 ·have hi1:i<vs.length:=by omega
  have hi2:i<zs.length:=by omega
  have hx:=hi.at_ i hi1 hi2
  have hw:=hj.it _ (List.getElem_mem hi2)
  have hlt:=hj.lt hi2
  refine zH hS Xh encIt_len hv (List.getElem?_eq_getElem hi1) hi1 ?_
  have ht:=joinL_take hi2
  generalize zs[i]=z at *
  generalize vs[i]=x at *
  have hex:encIt x=[.int .i64 z.lsn,x.ov,x.nv]:=by unfold encIt;rw[hx.lsn]
  refine Gb λxb w hS=>?_
  refine zP hS Xu rfl rfl (encIt_one hx) λw hS=>?_
  refine zA hS Xh rfl ?_
  (apply zd (z6 H x z hx) hS;exact Xp;clear hS)
  rintro _ post ⟨rfl,rfl⟩ w hS
  (try simp only[app]at hS)
  rw[hw.may]
  repeat first|refine Gp ?_|refine Gw λw hS=>?_|refine Gb λb w hS=>?_
  refine zr ?_
  rw[hex]at hS
  have hz5:=hw.ops
  have hzn:=hw.nts
  have hjl:=hji.len
  have hjn:=hji.nts
  generalize hP:joinL (zs.take i)=P at *
  refine⟨λus w=>us=[.bool true]∧SL W (.pt xb [.int .i64 z.lsn,x.ov,x.nv] 46::OpO ov P.ops::NtO nv P.notes::.pt ob [.int .i64 P.lsn,ov,nv] 46::.pt rb [.int .i64 0,.slice none 0 0,.slice none 0 0] 46::.mem H::F) w,?_,?_⟩
  ·repeat first|refine Gp ?_|refine Gw λw hS=>?_|refine Gb λb w hS=>?_
   rw[decide_eq_true hlt]
   exact⟨rfl,SL.into hS Xi⟩
  clear hS
  rintro _ w ⟨hus,hS⟩
  cases hus
  repeat first|refine Gp ?_|refine Gw λw hS=>?_|refine Gb λb w hS=>?_
  refine zw (n:=P.ops.length) (m:=z.ops.length) hS Xr (src_rd hS Xh hx.ops) (by rw[flatN_len encOp_len']) rfl (ops_one _) (by omega) (by omega) λov' w hS=>?_
  have hS:=OpO.add hS
  have o1:=OwnSl.one hS
  repeat first|refine Gp ?_|refine Gw λw hS=>?_|refine Gb λb w hS=>?_
  refine zw (n:=P.notes.length) (m:=z.notes.length) hS Xr (src_rd hS Xh hx.nts) (by rw[flatN_len encNote_len]) rfl (nts_one _) (by rw[hjn,hzn];decide) (by rw[hjn,hzn];decide) λnv' w hS=>?_
  have hS:=NtO.add hS
  have o2:=OwnSl.one hS
  repeat first|refine Gp ?_|refine Gw λw hS=>?_|refine Gb λb w hS=>?_
  refine⟨⟨i+1,ov',nv',rfl,by omega,?_⟩,by dsimp only;omega⟩
  rw[ht]
  show SL W (OpO ov' (P.ops++z.ops)::NtO nv' (P.notes++z.notes)::.pt ob [.int .i64 z.lsn,ov',nv'] 46::_) w
  exact SL.into hS Xi
 ·have hie:i=zs.length:=by omega
  subst hie
  have hpos:0<zs.length:=List.length_pos_iff.2 hne
  rw[List.take_length]at hS hji
  have hjl:=hji.len
  have hjn:=hji.nts
  generalize joinL zs=P at *
  refine zq hv ?_
  repeat first|refine Gp ?_|refine Gw λw hS=>?_|refine Gb λb w hS=>?_
  refine ze (λh0=>by omega) (λh0=>?_)
  repeat first|refine Gp ?_|refine Gw λw hS=>?_|refine Gb λb w hS=>?_
  refine zE hS (v:=ov) (t:=96) (sz:=5) (n:=P.ops.length) (cells:=(P.ops.map encOp).flatten) Xh ?_
  repeat first|refine Gp ?_|refine Gw λw hS=>?_|refine Gb λb w hS=>?_
  refine ze (λh0=>by omega) (λh0=>?_)
  repeat first|refine Gp ?_|refine Gw λw hS=>?_|refine Gb λb w hS=>?_
  refine zE hS (v:=nv) (t:=98) (sz:=7) (n:=P.notes.length) (cells:=(P.notes.map encNote).flatten) Xh ?_
  repeat first|refine Gp ?_|refine Gw λw hS=>?_|refine Gb λb w hS=>?_
  refine ze (λh1=>by rw[hjn]at h1;exact absurd h1 (by decide)) (λh1=>?_)
  repeat first|refine Gp ?_|refine Gw λw hS=>?_|refine Gb λb w hS=>?_
  refine zr ?_
  have o1:=OwnSl.one (Has.front (c:=OpO ov P.ops) hS Xr)
  have o2:=OwnSl.one (Has.front (c:=NtO nv P.notes) hS Xr)
  obtain⟨H1,h01,hR1,hS⟩:=zz (H:=H) (v:=ov) hS Xp
  obtain⟨H2,h12,hR2,hS⟩:=zz (H:=H1) (v:=nv) hS Xp
  refine zA hS Xh rfl ?_
  refine zP (vs:=[.int .i64 P.lsn,ov,nv]) hS Xu rfl rfl (encIt_one (x:=⟨P.lsn,ov,nv⟩) (t:=P) ⟨rfl,hR1.mono h12,hR2⟩) λw hS=>?_
  refine zA hS Xh rfl ?_
  exact⟨_,⟨⟨P.lsn,ov,nv⟩,H2,Heap.le_trans h01 h12,rfl,⟨rfl,hR1.mono h12,hR2⟩,rfl⟩,SL.into hS Xi⟩
structure WPs where
 wp:Nat
 kp:Nat
 gp:Nat
 dp:Nat
 lp:Nat
 pp:Nat
 qp:Nat
 qb:Nat
 rp:Nat
abbrev wtcells(kp qp rp most:Nat)(l:Int)(ov nv:Value)(n:Nat):List Value:=[ptrO kp,ptrO qp,ptrO rp,.int .i64 most,.int .i64 l,ov,nv,.int .i64 n]
def WrO(p:WPs)(c:WCf)(H:Heap)(s:PWt):zG:=HEx λh:Value × Value=>zT (ItIs H ⟨s.held.lsn,h.1,h.2⟩ s.held)
 [.pt p.wp (wtcells p.kp p.qp p.rp c.most s.held.lsn h.1 h.2 s.n) 236,.ob (SnkO p.kp p.gp p.dp p.lp p.pp H s.k),.ob (Gate p.qp p.qb c.cap s.out (s.L.map strI)),RtP p.rp c.b c.m c.j s.fails s.til]
section
variable {W w:World} {l F:List Chunk} {p:WPs} {c:WCf} {H:Heap} {s:PWt}
theorem WrO.iff:SL W (.ob (WrO p c H s)::l) w↔∃ov nv,ItIs H ⟨s.held.lsn,ov,nv⟩ s.held∧SL W (.pt p.wp (wtcells p.kp p.qp p.rp c.most s.held.lsn ov nv s.n) 236::.ob (SnkO p.kp p.gp p.dp p.lp p.pp H s.k)::.ob (Gate p.qp p.qb c.cap s.out (s.L.map strI))::RtP p.rp c.b c.m c.j s.fails s.til::l) w:=by
 unfold WrO
 simp only[SL.ex,SL.fact,List.cons_append,List.nil_append]
 exact⟨λ⟨x,h⟩=>⟨x.1,x.2,h⟩,λ⟨a,b,h⟩=>⟨(a,b),h⟩⟩
theorem WrO.open(hS:SL W l w)(r:Rem (.ob (WrO p c H s)) l F):∃ov nv,ItIs H ⟨s.held.lsn,ov,nv⟩ s.held∧SL W (.pt p.wp (wtcells p.kp p.qp p.rp c.most s.held.lsn ov nv s.n) 236::.ob (SnkO p.kp p.gp p.dp p.lp p.pp H s.k)::.ob (Gate p.qp p.qb c.cap s.out (s.L.map strI))::RtP p.rp c.b c.m c.j s.fails s.til::F) w:=WrO.iff.1 (hS.perm r.perm)
theorem WrO.put(s:PWt){ov nv:Value}(hS:SL W l w)(hi:ItIs H ⟨s.held.lsn,ov,nv⟩ s.held)(k:Pick [.pt p.wp (wtcells p.kp p.qp p.rp c.most s.held.lsn ov nv s.n) 236,.ob (SnkO p.kp p.gp p.dp p.lp p.pp H s.k),.ob (Gate p.qp p.qb c.cap s.out (s.L.map strI)),RtP p.rp c.b c.m c.j s.fails s.til] l F):SL W (.ob (WrO p c H s)::F) w:=WrO.iff.2 ⟨ov,nv,hi,hS.pick k⟩
theorem WrO.putN{k:PSink}{L:List PItem}{out n:Nat}{fails til:Int}{held:PItem}{ov nv:Value}(hS:SL W l w)(hi:ItIs H ⟨held.lsn,ov,nv⟩ held)(q:Pick [.pt p.wp (wtcells p.kp p.qp p.rp c.most held.lsn ov nv n) 236,.ob (SnkO p.kp p.gp p.dp p.lp p.pp H k),.ob (Gate p.qp p.qb c.cap out (L.map strI)),RtP p.rp c.b c.m c.j fails til] l F):SL W (.ob (WrO p c H ⟨k,L,out,fails,til,held,n⟩)::F) w:=WrO.iff.2 ⟨ov,nv,hi,hS.pick q⟩
theorem WrO.mono{H':Heap}(hh:H.le H')(h:SL W (.ob (WrO p c H s)::l) w):SL W (.ob (WrO p c H' s)::l) w:=by
 obtain⟨ov,nv,hi,hS⟩:=WrO.iff.1 h
 have hS:=SnkO.monoP hh hS Xr
 exact WrO.put s hS (hi.mono hh) Xp
theorem WrO.monoP{H':Heap}(hh:H.le H')(hS:SL W l w)(r:Rem (.ob (WrO p c H s)) l F):SL W (.ob (WrO p c H' s)::F) w:=WrO.mono hh (hS.perm r.perm)
theorem Gate.putP{g b cap out:Nat}{L:List ByteArray}(hS:SL W l w)(hA:L.length+out≤cap∧cap≤64)(k:Pick [.pt g [.pointer (some ⟨b,0,none⟩),.int .i64 out] 129,.ob (Ring b cap L)] l F):SL W (.ob (Gate g b cap out L)::F) w:=Gate.close hA (hS.pick k)
theorem gate_ring{g b cap out:Nat}{L:List ByteArray}(hS:SL W l w)(r:Rem (.ob (Gate g b cap out L)) l F):(L.length+out≤cap∧cap≤64)∧SL W (.pt g [.pointer (some ⟨b,0,none⟩),.int .i64 out] 129::.ob (Ring b cap L)::F) w:=Gate.open (hS.perm r.perm)
end
theorem wnew_ok(kp qp rp n:Nat)(h1:1≤n)(h2:n≤64):SP 50 [ptrO kp,ptrO qp,ptrO rp,.int .i64 n] [] (λv post=>∃p:Nat,v= .tuple #[ptrO p,.int .i64 0]∧post=[.pt p (wtcells kp qp rp n 0 (.slice none 0 0) (.slice none 0 0) 0) 236]):=by
 intro W F w hS;apply vc50;unfold Vc50;(try simp only[app]at hS)
 repeat first|refine Gp ?_|refine Gw λw hS=>?_|refine Gb λb w hS=>?_
 refine ze (λh=>by omega) (λ_=>?_)
 repeat first|refine Gp ?_|refine Gw λw hS=>?_|refine Gb λb w hS=>?_
 refine ze (λh=>by omega) (λ_=>?_)
 repeat first|refine Gp ?_|refine Gw λw hS=>?_|refine Gb λb w hS=>?_
 refine⟨_,rfl,zJ hS λp w hS=>?_⟩
 exact⟨_,⟨p,rfl,rfl⟩,hS⟩
theorem yT(p:WPs)(c:WCf)(H:Heap)(s:PWt)(now:Int):SP 57 [ptrO p.wp,.int .i64 now] [.ob (WrO p c H s)] (Gives (.bool (s.ready now)) [.ob (WrO p c H s)]):=by
 intro W F w hS;apply vc57;unfold Vc57;(try simp only[app]at hS)
 obtain⟨ov,nv,hi,hS⟩:=WrO.iff.1 hS
 repeat first|refine Gp ?_|refine Gw λw hS=>?_|refine Gb λb w hS=>?_
 unfold PWt.ready
 refine ze (λh=>?_) (λh=>?_)
 ·rw[if_pos (by omega)]
  repeat first|refine Gp ?_|refine Gw λw hS=>?_|refine Gb λb w hS=>?_
  (apply zd (YJ p.rp c.b c.m c.j s.fails s.til now) hS;exact Xp;clear hS)
  (rintro v post ⟨rfl,rfl⟩ w hS;(try simp only[app]at hS);(repeat (first|refine Gp ?_|refine Gw λw hS=>?_|refine Gb λb w hS=>?_)))
  have hS:=WrO.put s hS hi Xp
  (exact⟨_,⟨rfl,rfl⟩,SL.into hS Xi⟩)
 ·rw[if_neg (by omega)]
  repeat first|refine Gp ?_|refine Gw λw hS=>?_|refine Gb λb w hS=>?_
  obtain⟨hg,hS⟩:=gate_ring hS Xr
  repeat first|refine Gp ?_|refine Gw λw hS=>?_|refine Gb λb w hS=>?_
  (apply zd (ZX p.qb c.cap (s.L.map strI)) hS;exact Xp;clear hS)
  (rintro v post ⟨rfl,rfl⟩ w hS;(try simp only[app]at hS);(repeat (first|refine Gp ?_|refine Gw λw hS=>?_|refine Gb λb w hS=>?_)))
  rw[List.length_map]
  have hS:=Gate.putP hS hg Xp
  have hS:=WrO.put s hS hi Xp
  have e:decide ((0:Int)<(s.L.length:Int))=decide (0<s.L.length):=by rw[decide_eq_decide];omega
  rw[e]
  (exact⟨_,⟨rfl,rfl⟩,SL.into hS Xi⟩)
theorem strI_dec{x:PItem}(h:mayItem x=true):decItem (bytesItem x)= .ok x:=bytesItem_dec h
theorem its_take{H:Heap}{vs:List ItV}{L:List PItem}{i:Nat}(h:Its H vs (L.take i))(hi:i<L.length){x:ItV}(hx:ItIs H x L[i]):Its H (vs++[x]) (L.take (i+1)):=by
 rw[List.take_succ_eq_append_getElem hi];exact h.snoc hx
theorem qH(p:WPs)(c:WCf)(H:Heap)(s:PWt){tabs f:Nat}(hI:WtInv c tabs s f)(hn:s.n=0)(hL:0<s.L.length):
  SP 135 [ptrO p.wp] [.ob (WrO p c H s),.mem H] (λv post=>v= .int .i64 0∧∃H',H.le H'∧post=[.ob (WrO p c H' (s.hold c.most)),.mem H']):=by
 intro W F w hS;apply vc135;unfold Vc135;(try simp only[app]at hS)
 obtain⟨ov,nv,hi,hS⟩:=WrO.iff.1 hS
 have hc1:=hI.most1
 have hc2:=hI.most
 have hroom:=hI.room
 have hcap:=hI.cap
 obtain⟨F2,hF2⟩:∃F2,F2=RtP p.rp c.b c.m c.j s.fails s.til::F:=⟨_,rfl⟩
 have hS:=SL.into hS (t:=.pt p.wp (wtcells p.kp p.qp p.rp c.most s.held.lsn ov nv s.n) 236::.ob (SnkO p.kp p.gp p.dp p.lp p.pp H s.k)::.ob (Gate p.qp p.qb c.cap s.out (s.L.map strI))::.mem H::RtP p.rp c.b c.m c.j s.fails s.til::F) Xi
 rw[← hF2]at hS
 have hend:s.hold c.most=⟨s.k,s.L.drop (min c.most s.L.length),s.out+min c.most s.L.length,s.fails,s.til,joinL (s.L.take (min c.most s.L.length)),min c.most s.L.length⟩:=by
  unfold PWt.hold
  rw[if_pos hn]
  rcases Nat.le_total c.most s.L.length with h|h
  ·rw[Nat.min_eq_left h]
  ·rw[Nat.min_eq_right h,List.drop_eq_nil_of_le h,List.take_of_length_le h,List.drop_eq_nil_of_le (Nat.le_refl _),List.take_of_length_le (Nat.le_refl _)]
 have hm:∃m,m=min c.most s.L.length:=⟨_,rfl⟩
 obtain⟨m,hm⟩:=hm
 rw[← hm]at hend
 refine⟨λus w=>∃(lv:Value) (vs:List ItV) (H2:Heap),us=[lv]∧H.le H2∧Its H2 vs (s.L.take m)∧SL W (.ob (OwnSl lv 46 3 vs.length (vs.map encIt).flatten)::.pt p.wp (wtcells p.kp p.qp p.rp c.most s.held.lsn ov nv s.n) 236::.ob (SnkO p.kp p.gp p.dp p.lp p.pp H2 s.k)::.ob (Gate p.qp p.qb c.cap (s.out+m) ((s.L.drop m).map strI))::.mem H2::F2) w,?_,?_⟩
 ·have hS:=OwnSl.nil (t:=46) (sz:=3) hS
  have hS:SL W (.ob (OwnSl (.slice none 0 0) 46 3 ([]:List ItV).length (([]:List ItV).map encIt).flatten)::.pt p.wp (wtcells p.kp p.qp p.rp c.most s.held.lsn ov nv s.n) 236::.ob (SnkO p.kp p.gp p.dp p.lp p.pp H s.k)::.ob (Gate p.qp p.qb c.cap (s.out+0) ((s.L.drop 0).map strI))::.mem H::F2) w:=hS
  refine⟨λus w=>∃(i:Nat) (lv:Value) (vs:List ItV) (H2:Heap),us=[lv]∧vs.length=i∧i≤c.most∧i≤s.L.length∧H.le H2∧Its H2 vs (s.L.take i)∧SL W (.ob (OwnSl lv 46 3 vs.length (vs.map encIt).flatten)::.pt p.wp (wtcells p.kp p.qp p.rp c.most s.held.lsn ov nv s.n) 236::.ob (SnkO p.kp p.gp p.dp p.lp p.pp H2 s.k)::.ob (Gate p.qp p.qb c.cap (s.out+i) ((s.L.drop i).map strI))::.mem H2::F2) w,
   λus _=>match us with|[.slice _ n _]=>c.most-n|_=>0,⟨0,.slice none 0 0,[],H,rfl,rfl,by omega,by omega,Heap.le_refl H,⟨rfl,λj h=>by simp at h⟩,hS⟩,?_⟩
  clear hS
  rintro lv w ⟨i,_,vs,H2,hus,hvl,him,hil,h02,hIt,hS⟩
  cases hus
  obtain⟨a,cp,rfl,_⟩:=OwnSl.at hS .hd
  subst hvl
  repeat first|refine Gp ?_|refine Gw λw hS=>?_|refine Gb λb w hS=>?_
  refine ze (λh=>?_) (λh=>?_)
  ·repeat first|refine Gp ?_|refine Gw λw hS=>?_|refine Gb λb w hS=>?_
   by_cases hie:vs.length=s.L.length
   ·have e0:s.L.drop vs.length=[]:=List.drop_eq_nil_of_le (by omega)
    rw[e0,List.map_nil]at hS
    (apply zd (gpop_no p.qp p.qb c.cap (s.out+vs.length)) hS;exact Xp;clear hS)
    rintro _ post ⟨rfl,rfl⟩ w hS
    (try simp only[app]at hS)
    repeat first|refine Gp ?_|refine Gw λw hS=>?_|refine Gb λb w hS=>?_
    refine zy ?_
    have hmi:m=vs.length:=by omega
    subst hmi
    have e1:([]:List ByteArray)=(s.L.drop vs.length).map strI:=by rw[e0];rfl
    rw[e1]at hS
    exact⟨_,vs,H2,rfl,h02,hIt,SL.into hS Xi⟩
   ·have hi2:vs.length<s.L.length:=by omega
    have hw:=hI.it _ (List.getElem_mem hi2)
    have hIt3:=λ{H3:Heap} (h23:H2.le H3) {x:ItV} (hx:ItIs H3 x s.L[vs.length])=>its_take (hIt.mono h23) hi2 hx
    rw[List.drop_eq_getElem_cons hi2,List.map_cons]at hS
    generalize s.L[vs.length]=z at *
    (apply zd (gpop_yes p.qp p.qb c.cap (s.out+vs.length) (strI z) ((s.L.drop (vs.length+1)).map strI)) hS;exact Xp;clear hS)
    rintro _ post ⟨rfl,rfl⟩ w hS
    (try simp only[app]at hS)
    repeat first|refine Gp ?_|refine Gw λw hS=>?_|refine Gb λb w hS=>?_
    refine zr ?_
    refine ZY (bs:=bytesItem z) hS Tryz.underlying9 Tryz.underlying54 Tryz.underlying5 λbv w hS=>?_
    (apply zd (Yf (.ob (OwnSl bv 5 1 (bytesItem z).length ((bytesItem z).map u8c))) H2 bv (bytesItem z) Rdb.own) hS;exact Xp;clear hS)
    rintro r post hq w hS
    unfold DecIQ at hq
    rw[strI_dec hw.may]at hq
    obtain⟨x,H3,h23,rfl,hx,rfl⟩:=hq
    (try simp only[app]at hS)
    have hS:=SnkO.monoP h23 hS Xr
    repeat first|refine Gp ?_|refine Gw λw hS=>?_|refine Gb λb w hS=>?_
    refine zP hS Xu rfl rfl (encIt_one hx) λw hS=>?_
    refine Gp ?_
    refine ze (λh=>absurd rfl h) (λ_=>?_)
    refine zA hS Xh rfl ?_
    refine Gb λyb w hS=>?_
    refine zw (n:=vs.length) (m:=1) hS Xr (src_pt0 (cs:=encIt x) hS Xh rfl) rfl rfl (encIt_one hx) (by omega) (by omega) λlv2 w hS=>?_
    rw[← flat_snoc]at hS
    rw[show s.out+vs.length+1=s.out+(vs.length+1) by omega]at hS
    have hS:=hS.snocL (xs:=vs) (x:=x)
    obtain⟨a2,cp2,rfl,_⟩:=OwnSl.at hS .hd
    refine⟨⟨vs.length+1,_,vs++[x],H3,rfl,by simp,by omega,by omega,Heap.le_trans h02 h23,hIt3 h23 hx,SL.into hS Xi⟩,?_⟩
    simp only[List.length_append,List.length_singleton]
    omega
  ·have hmi:m=vs.length:=by omega
   subst hmi
   exact⟨_,vs,H2,rfl,h02,hIt,SL.into hS Xi⟩
 ·clear hS
  rintro lv w ⟨_,vs,H2,hus,h02,hIt,hS⟩
  cases hus
  obtain⟨H3,h23,hR,hS⟩:=zz (H:=H2) (v:=lv) hS Xp
  have hS:=SnkO.monoP h23 hS Xr
  have hne:s.L.take m≠[]:=λh=>by
   have:=congrArg List.length h
   rw[List.length_take,List.length_nil]at this
   omega
  have hvl:vs.length=m:=by have:=hIt.len;rw[List.length_take]at this;omega
  (apply zd (qz H3 lv vs (s.L.take m) hR (hIt.mono h23) (tabs:=tabs) ⟨λx hx=>hI.it x (List.mem_of_mem_take hx),hI.rise.take _,by rw[List.length_take];omega⟩ hne) hS;exact Xp;clear hS)
  rintro _ post ⟨xv,H4,h34,rfl,hx,rfl⟩ w hS
  (try simp only[app]at hS)
  have hS:=SnkO.monoP h34 hS Xr
  have hxl:=hx.lsn
  obtain⟨xl,xo,xn⟩:=xv
  simp only at hxl
  subst hxl
  repeat first|refine Gp ?_|refine Gw λw hS=>?_|refine Gb λb w hS=>?_
  refine zP hS Xu rfl rfl (encIt_one hx) λw hS=>?_
  refine Gp ?_
  refine ze (λ_=>?_) (λh=>absurd rfl h)
  refine zA hS Xh rfl ?_
  refine zq hR ?_
  rw[hvl]
  repeat first|refine Gp ?_|refine Gw λw hS=>?_|refine Gb λb w hS=>?_
  refine YZ (o:=4) (vs:=encIt ⟨(joinL (s.L.take m)).lsn,xo,xn⟩) hS Xu rfl (by show 7≤8;decide) (encIt_one hx) λw hS=>?_
  simp only[encIt,List.take,List.drop,List.cons_append,List.nil_append]at hS
  repeat first|refine Gp ?_|refine Gw λw hS=>?_|refine Gb λb w hS=>?_
  rw[hend]
  rw[hF2]at hS
  have hS:=WrO.putN (p:=p) (c:=c) (held:=joinL (s.L.take m)) (n:=m) hS hx Xp
  exact⟨_,⟨rfl,H4,Heap.le_trans h02 (Heap.le_trans h23 h34),rfl⟩,SL.into hS Xi⟩
theorem qu(kp gp dp lp pp:Nat)(H:Heap)(k:PSink)(x:ItV)(t:PItem)(hx:ItIs H x t)(hi:IOk t)(hkeys:∀o∈t.ops,inI64 o.key){N m:Nat}(hk:KOk k N m):
  SP 136 [agg [ptrO kp],agg (encIt x)] [.ob (SnkO kp gp dp lp pp H k),.mem H] (KAns kp gp dp lp pp H (k.commitK t)):=by
 intro W F w hS;apply vc136;unfold Vc136;(try simp only[app]at hS)
 refine zB hS λab w hS=>?_
 refine zB hS λxb w hS=>?_
 repeat first|refine Gp ?_|refine Gw λw hS=>?_|refine Gb λb w hS=>?_
 (apply zd (Yr kp gp dp lp pp H k x t hx hi hkeys hk) hS;exact Xp;clear hS)
 rintro v post ⟨rfl,H',hh,rfl⟩ w hS
 (try simp only[app]at hS)
 exact⟨_,⟨rfl,H',hh,rfl⟩,SL.into hS Xi⟩
def StepQ(O:Heap→PWt→Chunk)(H:Heap)(y:PWt × Int × Int)(v:Value)(post:List Chunk):Prop:=v= .tuple #[.int .i64 y.2.1,.int .i64 y.2.2]∧∃H',H.le H'∧post=[O H' y.1,.mem H']
theorem WtInv.iok{c:WCf}{tabs f:Nat}{s:PWt}(h:WtInv c tabs s f)(hn:0<s.n):mayItem s.held=true∧IOk s.held∧∀o∈s.held.ops,inI64 o.key:=by
 have h1:=h.room
 have h2:=h.out
 have h3:=h.cap
 rcases h.held with ⟨h4,_⟩|⟨_,h4⟩
 ·omega
 ·have hm:=(h4.may hn (by omega)).1
  exact⟨hm,mayItem_iok hm⟩
theorem it_cells{a b c d:Value}{l:Int}{ov nv e:Value}:∀j v,([.int .i64 l,ov,nv]:List Value)[j]?=some v→[a,b,c,d,.int .i64 l,ov,nv,e][4+j]?=some v
 | 0,v,h=>h
 | 1,v,h=>h
 | 2,v,h=>h
 | j+3,v,h=>by simp at h
theorem yJ(p:WPs)(c:WCf)(H:Heap)(s:PWt)(now draw:Int){tabs f N m:Nat}(hI:WtInv c tabs s f)(hf:f≤1000000)(hk:KOk s.k N m):
  SP 54 [ptrO p.wp,.int .i64 now,.int .i64 draw] [.ob (WrO p c H s),.mem H] (StepQ (λH s=>.ob (WrO p c H s)) H (s.step c now draw)):=by
 intro W F w hS;apply vc54;unfold Vc54;(try simp only[app]at hS)
 (apply zd (yT p c H s now) hS;exact Xp;clear hS)
 rintro _ post ⟨rfl,rfl⟩ w hS
 (try simp only[app]at hS)
 unfold PWt.step
 cases hr:s.ready now with
 | false=>
  rw[if_neg (by decide)]
  repeat first|refine Gp ?_|refine Gw λw hS=>?_|refine Gb λb w hS=>?_
  refine zy ?_
  exact⟨_,⟨rfl,H,Heap.le_refl H,rfl⟩,SL.into hS Xi⟩
 | true=>
 rw[if_pos rfl]
 repeat first|refine Gp ?_|refine Gw λw hS=>?_|refine Gb λb w hS=>?_
 refine zr ?_
 obtain⟨hI1,hn1⟩:=hI.hold hr
 have hk1:(s.hold c.most).k=s.k:=by unfold PWt.hold;split<;>rfl
 refine⟨λus w=>∃H2,us=[]∧H.le H2∧SL W (.ob (WrO p c H2 (s.hold c.most))::.mem H2::F) w,?_,?_⟩
 ·obtain⟨ov,nv,hi,hS⟩:=WrO.open hS Xr
  repeat first|refine Gp ?_|refine Gw λw hS=>?_|refine Gb λb w hS=>?_
  have hS:=WrO.put s hS hi Xp
  refine ze (λh=>?_) (λh=>?_)
  ·have hL:0<s.L.length:=by
    unfold PWt.ready at hr
    rw[if_neg (by omega),decide_eq_true_eq]at hr
    exact hr
   (apply zd (qH p c H s hI (by omega) hL) hS;exact Xp;clear hS)
   rintro _ post ⟨rfl,H2,h02,rfl⟩ w hS
   (try simp only[app]at hS)
   repeat first|refine Gp ?_|refine Gw λw hS=>?_|refine Gb λb w hS=>?_
   refine ze (λh=>absurd rfl h) (λ_=>?_)
   exact⟨H2,rfl,h02,SL.into hS Xi⟩
  ·have e:s.hold c.most=s:=by unfold PWt.hold;rw[if_neg (by omega)]
   rw[e]
   exact⟨H,rfl,Heap.le_refl H,SL.into hS Xi⟩
 clear hS
 rintro w ⟨H2,-,h02,hS⟩
 rw[← hk1]at hk
 clear hI hk1 hr
 generalize s.hold c.most=s1 at *
 obtain⟨ov,nv,hi,hS⟩:=WrO.open hS Xr
 obtain⟨hm,hio,hkeys⟩:=hI1.iok hn1
 have hf0:=hI1.f0
 have hf1:=hI1.f1
 have hg:=giveN_le s1.n s1.out
 repeat first|refine Gp ?_|refine Gw λw hS=>?_|refine Gb λb w hS=>?_
 refine yS (vs:=[ptrO p.kp]) hS Xh rfl (λj v h=>?_) ?_
 ·match j,h with
  | 0,h=>exact h
  | j+1,h=>simp at h
 repeat first|refine Gp ?_|refine Gw λw hS=>?_|refine Gb λb w hS=>?_
 refine yS (vs:=[.int .i64 s1.held.lsn,ov,nv]) hS Xh rfl it_cells ?_
 have hI2:ItIs H2 ⟨s1.held.lsn,ov,nv⟩ s1.held:=hi
 (apply zd (qu p.kp p.gp p.dp p.lp p.pp H2 s1.k ⟨s1.held.lsn,ov,nv⟩ s1.held hI2 hio hkeys hk) hS;exact Xp;clear hS)
 rintro _ post ⟨rfl,H3,h23,rfl⟩ w hS
 (try simp only[app]at hS)
 have h03:=Heap.le_trans h02 h23
 have hi3:=hi.mono h23
 unfold PWt.hand
 generalize s1.k.commitK s1.held=y at *
 obtain⟨k',e⟩:=y
 simp only at hS ⊢
 repeat first|refine Gp ?_|refine Gw λw hS=>?_|refine Gb λb w hS=>?_
 refine ze (λh0=>?_) (λh0=>?_)
 ·rw[if_pos h0]
  repeat first|refine Gp ?_|refine Gw λw hS=>?_|refine Gb λb w hS=>?_
  (apply zd (qD s1.n p.qp p.qb c.cap s1.out (s1.L.map strI)) hS;exact Xp;clear hS)
  (rintro v post ⟨rfl,rfl⟩ w hS;(try simp only[app]at hS);(repeat (first|refine Gp ?_|refine Gw λw hS=>?_|refine Gb λb w hS=>?_)))
  (apply zd (qX p.rp c.b c.m c.j s1.fails s1.til) hS;exact Xp;clear hS)
  (rintro v post ⟨rfl,rfl⟩ w hS;(try simp only[app]at hS);(repeat (first|refine Gp ?_|refine Gw λw hS=>?_|refine Gb λb w hS=>?_)))
  refine YZ (o:=4) (vs:=[.int .i64 0,.slice none 0 0,.slice none 0 0]) hS Xu rfl (by show 7≤8;decide) (by simp[Value.oneCell']) λw hS=>?_
  simp only[List.take,List.drop,List.cons_append,List.nil_append]at hS
  repeat first|refine Gp ?_|refine Gw λw hS=>?_|refine Gb λb w hS=>?_
  have hS:SL W (_::_::_::_::.pt p.wp (wtcells p.kp p.qp p.rp c.most it0.lsn (.slice none 0 0) (.slice none 0 0) 0) 236::_) w:=hS
  have hS:=WrO.putN (p:=p) (c:=c) (H:=H3) (L:=s1.L) (held:=it0) (n:=0) (ov:=.slice none 0 0) (nv:=.slice none 0 0) hS ⟨rfl,RdSl.nil _ _,RdSl.nil _ _⟩ Xp
  exact⟨_,⟨rfl,H3,h03,rfl⟩,SL.into hS Xi⟩
 ·rw[if_neg h0]
  repeat first|refine Gp ?_|refine Gw λw hS=>?_|refine Gb λb w hS=>?_
  refine ze (λh9=>?_) (λh9=>?_)
  ·rw[if_pos h9]
   repeat first|refine Gp ?_|refine Gw λw hS=>?_|refine Gb λb w hS=>?_
   (apply zd (qB p.rp c.b c.m c.j s1.fails s1.til now draw (by omega)) hS;exact Xp;clear hS)
   (rintro v post ⟨rfl,rfl⟩ w hS;(try simp only[app]at hS);(repeat (first|refine Gp ?_|refine Gw λw hS=>?_|refine Gb λb w hS=>?_)))
   have hS:=WrO.putN (p:=p) (c:=c) (H:=H3) (L:=s1.L) (held:=s1.held) hS hi3 Xp
   exact⟨_,⟨rfl,H3,h03,rfl⟩,SL.into hS Xi⟩
  ·rw[if_neg h9]
   have hS:=WrO.putN (p:=p) (c:=c) (H:=H3) (L:=s1.L) (held:=s1.held) hS hi3 Xp
   exact⟨_,⟨rfl,H3,h03,rfl⟩,SL.into hS Xi⟩
theorem clone_ops(H:Heap)(v:Value)(L:List AOp)(hv:RdOps H v L)(hn:L.length≤1000000):SP 195 [v] [.mem H] (λu post=>post=[OpO u L,.mem H]):=
 clone_rd (λv0 w R h=>vc195 v0 w R h) rfl (by decide) hv (ops_one L) (by omega) (by omega)
theorem clone_nts(H:Heap)(v:Value)(L:List PNote)(hv:RdNts H v L)(hn:L.length≤1000000):SP 196 [v] [.mem H] (λu post=>post=[NtO u L,.mem H]):=
 clone_rd (λv0 w R h=>vc196 v0 w R h) rfl (by decide) hv (nts_one L) (by omega) (by omega)
theorem Z0(p:WPs)(c:WCf)(H:Heap)(s:PWt)(h1:s.held.ops.length≤1000000)(h2:s.held.notes.length≤1000000):
  SP 132 [ptrO p.wp] [.ob (WrO p c H s),.mem H] (λv post=>∃hv H',H.le H'∧v=agg (encIt hv)∧ItIs H' hv s.held∧post=[.ob (WrO p c H' s),.mem H']):=by
 intro W F w hS;apply vc132;unfold Vc132;(try simp only[app]at hS)
 obtain⟨ov,nv,hi,hS⟩:=WrO.iff.1 hS
 have o1:=hi.ops.one
 have o2:=hi.nts.one
 refine Gb λrb w hS=>?_
 repeat first|refine Gp ?_|refine Gw λw hS=>?_|refine Gb λb w hS=>?_
 refine yS (vs:=[.int .i64 s.held.lsn,ov,nv]) hS Xh rfl it_cells ?_
 refine Gb λxb w hS=>?_
 refine zP hS Xu rfl rfl (encIt_one hi) λw hS=>?_
 repeat first|refine Gp ?_|refine Gw λw hS=>?_|refine Gb λb w hS=>?_
 (apply zd (clone_ops H ov s.held.ops hi.ops h1) hS;exact Xp;clear hS)
 rintro u1 post rfl w hS
 (try simp only[app]at hS)
 repeat first|refine Gp ?_|refine Gw λw hS=>?_|refine Gb λb w hS=>?_
 (apply zd (clone_nts H nv s.held.notes hi.nts h2) hS;exact Xp;clear hS)
 rintro u2 post rfl w hS
 (try simp only[app]at hS)
 have o3:=OwnSl.one (Has.front (c:=OpO u1 s.held.ops) hS Xr)
 have o4:=OwnSl.one (Has.front (c:=NtO u2 s.held.notes) hS Xr)
 obtain⟨H1,h01,hR1,hS⟩:=zz (H:=H) (v:=u1) hS Xp
 obtain⟨H2,h12,hR2,hS⟩:=zz (H:=H1) (v:=u2) hS Xp
 have h02:=Heap.le_trans h01 h12
 have hS:=SnkO.monoP h02 hS Xr
 repeat first|refine Gp ?_|refine Gw λw hS=>?_|refine Gb λb w hS=>?_
 have hq:ItIs H2 ⟨s.held.lsn,u1,u2⟩ s.held:=⟨rfl,hR1.mono h12,hR2⟩
 refine zP (vs:=[.int .i64 s.held.lsn,u1,u2]) hS Xu rfl rfl (encIt_one hq) λw hS=>?_
 refine zA hS Xh rfl ?_
 have hS:=WrO.put s hS (hi.mono h02) Xp
 exact⟨_,⟨⟨s.held.lsn,u1,u2⟩,H2,h02,rfl,hq,rfl⟩,SL.into hS Xi⟩
theorem qF(H:Heap)(v:Value)(vs:List ItV)(zs:List PItem)(hv:RdSl H 3 v vs.length (vs.map encIt).flatten)(hi:Its H vs zs){tabs:Nat}(hj:JRow tabs zs)(hne:zs≠[]):
  SP 146 [v] [.mem H] (λu post=>∃xv H',H.le H'∧u= .tuple #[agg (encIt xv),.int .i64 0]∧ItIs H' xv (joinL zs)∧post=[.mem H']):=by
 intro W F w hS;apply vc146;unfold Vc146;(try simp only[app]at hS)
 have hlen:=hi.len
 have h64:=hj.le
 refine Gb λrb w hS=>?_
 refine Gb λob w hS=>?_
 have hS:=OwnSl.nil (t:=96) (sz:=5) hS
 have hS:=OwnSl.nil (t:=98) (sz:=7) hS
 have hS:SL W (NtO (.slice none 0 0) (joinL (zs.take 0)).notes::OpO (.slice none 0 0) (joinL (zs.take 0)).ops::.pt ob [.int .i64 (joinL (zs.take 0)).lsn,.slice none 0 0,.slice none 0 0] 46::_) _:=hS
 refine⟨λus w=>∃(i:Nat) (ov nv:Value),us=[.bool true,.int .i64 i]∧i≤zs.length∧SL W (OpO ov (joinL (zs.take i)).ops::NtO nv (joinL (zs.take i)).notes::.pt ob [.int .i64 (joinL (zs.take i)).lsn,ov,nv] 46::.pt rb [.int .i64 0,.slice none 0 0,.slice none 0 0] 46::.mem H::F) w,
  λus _=>match us with|[_,.int _ i]=>(zs.length-i).toNat|_=>0,⟨0,.slice none 0 0,.slice none 0 0,rfl,Nat.zero_le _,SL.into hS Xi⟩,?_⟩
 clear hS
 rintro v5 v10 w ⟨i,ov,nv,hus,hil,hS⟩
 cases hus
 refine zq hv ?_
 repeat first|refine Gp ?_|refine Gw λw hS=>?_|refine Gb λb w hS=>?_
 have hji:=hj.at i hil
 refine ze (λh=>?_) (λh=>?_)
 ·have hi1:i<vs.length:=by omega
  have hi2:i<zs.length:=by omega
  have hx:=hi.at_ i hi1 hi2
  have hw:=hj.it _ (List.getElem_mem hi2)
  have hlt:=hj.lt hi2
  have hg:=List.getElem?_eq_getElem hi1
  have ht:=joinL_take hi2
  generalize zs[i]=z at *
  generalize vs[i]=x at *
  have hex:encIt x=[.int .i64 z.lsn,x.ov,x.nv]:=by unfold encIt;rw[hx.lsn]
  have hz5:=hw.ops
  have hzn:=hw.nts
  have hjl:=hji.len
  have hjn:=hji.nts
  have e0:(encIt x)[0]?=some (.int .i64 z.lsn):=by rw[hex];rfl
  have e1:(encIt x)[1]?=some x.ov:=by rw[hex];rfl
  have e2:(encIt x)[2]?=some x.nv:=by rw[hex];rfl
  generalize hP:joinL (zs.take i)=P at *
  repeat first|refine Gp ?_|refine Gw λw hS=>?_|refine Gb λb w hS=>?_
  refine zH hS Xh encIt_len hv hg hi1 ?_
  (apply zd (zZ H x z hx) hS;exact Xp;clear hS)
  rintro _ post ⟨rfl,rfl⟩ w hS
  (try simp only[app]at hS)
  rw[hw.may]
  repeat first|refine Gp ?_|refine Gw λw hS=>?_|refine Gb λb w hS=>?_
  refine zr ?_
  repeat first|refine Gp ?_|refine Gw λw hS=>?_|refine Gb λb w hS=>?_
  refine zE hS (v:=ov) (t:=96) (sz:=5) (n:=P.ops.length) (cells:=(P.ops.map encOp).flatten) Xh ?_
  repeat first|refine Gp ?_|refine Gw λw hS=>?_|refine Gb λb w hS=>?_
  refine zY hS Xh encIt_len hv hg hi1 e1 ?_
  refine zq hx.ops ?_
  repeat first|refine Gp ?_|refine Gw λw hS=>?_|refine Gb λb w hS=>?_
  refine ze (λh0=>by omega) (λh0=>?_)
  repeat first|refine Gp ?_|refine Gw λw hS=>?_|refine Gb λb w hS=>?_
  refine zE hS (v:=nv) (t:=98) (sz:=7) (n:=P.notes.length) (cells:=(P.notes.map encNote).flatten) Xh ?_
  refine zY hS Xh encIt_len hv hg hi1 e2 ?_
  refine zq hx.nts ?_
  have n1:P.notes.length=0:=by rw[hjn];rfl
  have n2:z.notes.length=0:=by rw[hzn];rfl
  repeat first|refine Gp ?_|refine Gw λw hS=>?_|refine Gb λb w hS=>?_
  refine ze (λh1=>by omega) (λh1=>?_)
  refine⟨λus w=>us=[.bool true]∧SL W (OpO ov P.ops::NtO nv P.notes::.pt ob [.int .i64 P.lsn,ov,nv] 46::.pt rb [.int .i64 0,.slice none 0 0,.slice none 0 0] 46::.mem H::F) w,?_,?_⟩
  ·repeat first|refine Gp ?_|refine Gw λw hS=>?_|refine Gb λb w hS=>?_
   refine zY hS Xh encIt_len hv hg hi1 e0 ?_
   repeat first|refine Gp ?_|refine Gw λw hS=>?_|refine Gb λb w hS=>?_
   rw[decide_eq_true hlt]
   exact⟨rfl,SL.into hS Xi⟩
  clear hS
  rintro _ w ⟨hus,hS⟩
  cases hus
  refine zY hS Xh encIt_len hv hg hi1 e0 ?_
  repeat first|refine Gp ?_|refine Gw λw hS=>?_|refine Gb λb w hS=>?_
  refine zY hS Xh encIt_len hv hg hi1 e1 ?_
  refine zw (n:=P.ops.length) (m:=z.ops.length) hS Xr (src_rd hS Xh hx.ops) (by rw[flatN_len encOp_len']) rfl (ops_one _) (by omega) (by omega) λov' w hS=>?_
  have hS:=OpO.add hS
  have o1:=OwnSl.one hS
  repeat first|refine Gp ?_|refine Gw λw hS=>?_|refine Gb λb w hS=>?_
  refine zY hS Xh encIt_len hv hg hi1 e2 ?_
  refine zw (n:=P.notes.length) (m:=z.notes.length) hS Xr (src_rd hS Xh hx.nts) (by rw[flatN_len encNote_len]) rfl (nts_one _) (by omega) (by omega) λnv' w hS=>?_
  have hS:=NtO.add hS
  have o2:=OwnSl.one hS
  repeat first|refine Gp ?_|refine Gw λw hS=>?_|refine Gb λb w hS=>?_
  refine⟨⟨i+1,ov',nv',rfl,by omega,?_⟩,by dsimp only;omega⟩
  rw[ht]
  show SL W (OpO ov' (P.ops++z.ops)::NtO nv' (P.notes++z.notes)::.pt ob [.int .i64 z.lsn,ov',nv'] 46::_) w
  exact SL.into hS Xi
 ·have hie:i=zs.length:=by omega
  subst hie
  have hpos:0<zs.length:=List.length_pos_iff.2 hne
  rw[List.take_length]at hS hji
  generalize joinL zs=P at *
  refine zq hv ?_
  repeat first|refine Gp ?_|refine Gw λw hS=>?_|refine Gb λb w hS=>?_
  refine ze (λh0=>by omega) (λh0=>?_)
  repeat first|refine Gp ?_|refine Gw λw hS=>?_|refine Gb λb w hS=>?_
  refine zr ?_
  have o1:=OwnSl.one (Has.front (c:=OpO ov P.ops) hS Xr)
  have o2:=OwnSl.one (Has.front (c:=NtO nv P.notes) hS Xr)
  obtain⟨H1,h01,hR1,hS⟩:=zz (H:=H) (v:=ov) hS Xp
  obtain⟨H2,h12,hR2,hS⟩:=zz (H:=H1) (v:=nv) hS Xp
  refine zA hS Xh rfl ?_
  refine zP (vs:=[.int .i64 P.lsn,ov,nv]) hS Xu rfl rfl (encIt_one (x:=⟨P.lsn,ov,nv⟩) (t:=P) ⟨rfl,hR1.mono h12,hR2⟩) λw hS=>?_
  refine zA hS Xh rfl ?_
  exact⟨_,⟨⟨P.lsn,ov,nv⟩,H2,Heap.le_trans h01 h12,rfl,⟨rfl,hR1.mono h12,hR2⟩,rfl⟩,SL.into hS Xi⟩
structure RPs where
 yp:Nat
 kp:Nat
 xp:Nat
 lp:Nat
 rp:Nat
 qp:Nat
 rr:Nat
abbrev RdG(H:Heap)(v:Value)(L:List PItem):Prop:=RdSl H 1 v (L.map strI).length ((L.map strI).map .string)
def RWrO(p:RPs)(c:WCf)(H:Heap)(s:PWt):zG:=HEx λh:Value × Value × Value=>zT (ItIs H ⟨s.held.lsn,h.1,h.2.1⟩ s.held∧RdG H h.2.2 s.L)
 [.pt p.yp (wtcells p.kp p.qp p.rr c.most s.held.lsn h.1 h.2.1 s.n) 140,.ob (RSnkO p.kp p.xp p.lp p.rp H s.k),RG p.qp c.cap (c.cap-s.L.length-s.out) s.out h.2.2,RRtP p.rr c.b c.m c.j s.fails s.til]
section
variable {W w:World} {l F:List Chunk} {p:RPs} {c:WCf} {H:Heap} {s:PWt}
theorem RWrO.iff:SL W (.ob (RWrO p c H s)::l) w↔∃ov nv gv,(ItIs H ⟨s.held.lsn,ov,nv⟩ s.held∧RdG H gv s.L)∧SL W (.pt p.yp (wtcells p.kp p.qp p.rr c.most s.held.lsn ov nv s.n) 140::.ob (RSnkO p.kp p.xp p.lp p.rp H s.k)::RG p.qp c.cap (c.cap-s.L.length-s.out) s.out gv::RRtP p.rr c.b c.m c.j s.fails s.til::l) w:=by
 unfold RWrO
 simp only[SL.ex,SL.fact,List.cons_append,List.nil_append]
 exact⟨λ⟨x,h⟩=>⟨x.1,x.2.1,x.2.2,h⟩,λ⟨a,b,d,h⟩=>⟨(a,b,d),h⟩⟩
theorem RWrO.open(hS:SL W l w)(r:Rem (.ob (RWrO p c H s)) l F):∃ov nv gv,(ItIs H ⟨s.held.lsn,ov,nv⟩ s.held∧RdG H gv s.L)∧SL W (.pt p.yp (wtcells p.kp p.qp p.rr c.most s.held.lsn ov nv s.n) 140::.ob (RSnkO p.kp p.xp p.lp p.rp H s.k)::RG p.qp c.cap (c.cap-s.L.length-s.out) s.out gv::RRtP p.rr c.b c.m c.j s.fails s.til::F) w:=RWrO.iff.1 (hS.perm r.perm)
theorem RWrO.put(s:PWt){ov nv gv:Value}(hS:SL W l w)(hi:ItIs H ⟨s.held.lsn,ov,nv⟩ s.held)(hg:RdG H gv s.L)(k:Pick [.pt p.yp (wtcells p.kp p.qp p.rr c.most s.held.lsn ov nv s.n) 140,.ob (RSnkO p.kp p.xp p.lp p.rp H s.k),RG p.qp c.cap (c.cap-s.L.length-s.out) s.out gv,RRtP p.rr c.b c.m c.j s.fails s.til] l F):SL W (.ob (RWrO p c H s)::F) w:=RWrO.iff.2 ⟨ov,nv,gv,⟨hi,hg⟩,hS.pick k⟩
theorem RWrO.putN{k:PSink}{L:List PItem}{cr out n:Nat}{fails til:Int}{held:PItem}{ov nv gv:Value}(hS:SL W l w)(hi:ItIs H ⟨held.lsn,ov,nv⟩ held)(hg:RdG H gv L)(q:Pick [.pt p.yp (wtcells p.kp p.qp p.rr c.most held.lsn ov nv n) 140,.ob (RSnkO p.kp p.xp p.lp p.rp H k),RG p.qp c.cap cr out gv,RRtP p.rr c.b c.m c.j fails til] l F)(hc:cr=c.cap-L.length-out):SL W (.ob (RWrO p c H ⟨k,L,out,fails,til,held,n⟩)::F) w:=by
 subst hc
 exact RWrO.iff.2 ⟨ov,nv,gv,⟨hi,hg⟩,hS.pick q⟩
theorem RWrO.mono{H':Heap}(hh:H.le H')(h:SL W (.ob (RWrO p c H s)::l) w):SL W (.ob (RWrO p c H' s)::l) w:=by
 obtain⟨ov,nv,gv,⟨hi,hg⟩,hS⟩:=RWrO.iff.1 h
 have hS:=RSnkO.monoP hh hS Xr
 exact RWrO.put s hS (hi.mono hh) (hg.mono hh) Xp
theorem RWrO.monoP{H':Heap}(hh:H.le H')(hS:SL W l w)(r:Rem (.ob (RWrO p c H s)) l F):SL W (.ob (RWrO p c H' s)::F) w:=RWrO.mono hh (hS.perm r.perm)
end
theorem Zb(p:RPs)(c:WCf)(H:Heap)(s:PWt)(now:Int):SP 144 [ptrO p.yp,.int .i64 now] [.ob (RWrO p c H s)] (Gives (.bool (s.ready now)) [.ob (RWrO p c H s)]):=by
 intro W F w hS;apply vc144;unfold Vc144;(try simp only[app]at hS)
 obtain⟨ov,nv,gv,⟨hi,hg⟩,hS⟩:=RWrO.iff.1 hS
 repeat first|refine Gp ?_|refine Gw λw hS=>?_|refine Gb λb w hS=>?_
 unfold PWt.ready
 refine ze (λh=>?_) (λh=>?_)
 ·rw[if_pos (by omega)]
  repeat first|refine Gp ?_|refine Gw λw hS=>?_|refine Gb λb w hS=>?_
  have hS:=RWrO.put s hS hi hg Xp
  (exact⟨_,⟨rfl,rfl⟩,SL.into hS Xi⟩)
 ·rw[if_neg (by omega)]
  repeat first|refine Gp ?_|refine Gw λw hS=>?_|refine Gb λb w hS=>?_
  refine zq hg ?_
  repeat first|refine Gp ?_|refine Gw λw hS=>?_|refine Gb λb w hS=>?_
  rw[List.length_map]
  have hS:=RWrO.put s hS hi hg Xp
  have e:decide ((0:Int)<(s.L.length:Int))=decide (0<s.L.length):=by rw[decide_eq_decide];omega
  rw[e]
  (exact⟨_,⟨rfl,rfl⟩,SL.into hS Xi⟩)
theorem YW(p:RPs)(c:WCf)(H:Heap)(s:PWt)(now draw:Int){tabs f N m:Nat}(hI:WtInv c tabs s f)(hf:f≤1000000)(hk:KOk s.k N (m+1))(hkeep:∀f∈s.k.plan,f.keep≤9223372036854775807):
  SP 65 [ptrO p.yp,.int .i64 now,.int .i64 draw] [.ob (RWrO p c H s),.mem H] (StepQ (λH s=>.ob (RWrO p c H s)) H (s.step c now draw)):=by
 intro W F w hS;apply vc65;unfold Vc65;(try simp only[app]at hS)
 (apply zd (Zb p c H s now) hS;exact Xp;clear hS)
 rintro _ post ⟨rfl,rfl⟩ w hS
 (try simp only[app]at hS)
 unfold PWt.step
 cases hr:s.ready now with
 | false=>
  rw[if_neg (by decide)]
  repeat first|refine Gp ?_|refine Gw λw hS=>?_|refine Gb λb w hS=>?_
  refine zy ?_
  exact⟨_,⟨rfl,H,Heap.le_refl H,rfl⟩,SL.into hS Xi⟩
 | true=>
 rw[if_pos rfl]
 repeat first|refine Gp ?_|refine Gw λw hS=>?_|refine Gb λb w hS=>?_
 refine zr ?_
 obtain⟨hI1,hn1⟩:=hI.hold hr
 have hk1:(s.hold c.most).k=s.k:=by unfold PWt.hold;split<;>rfl
 refine⟨λus w=>∃H2,us=[]∧H.le H2∧SL W (.ob (RWrO p c H2 (s.hold c.most))::.mem H2::F) w,?_,?_⟩
 ·obtain⟨ov,nv,gv,⟨hi,hg⟩,hS⟩:=RWrO.open hS Xr
  repeat first|refine Gp ?_|refine Gw λw hS=>?_|refine Gb λb w hS=>?_
  refine ze (λh=>?_) (λh=>?_)
  ·have hn:s.n=0:=by omega
   have hL:0<s.L.length:=by
    unfold PWt.ready at hr
    rw[if_neg (by omega),decide_eq_true_eq]at hr
    exact hr
   have hc1:=hI.most1
   have hc2:=hI.most
   have hroom:=hI.room
   have hcap:=hI.cap
   obtain⟨F2,hF2⟩:∃F2,F2=RRtP p.rr c.b c.m c.j s.fails s.til::F:=⟨_,rfl⟩
   have hS:=SL.into hS (t:=.pt p.yp (wtcells p.kp p.qp p.rr c.most s.held.lsn ov nv s.n) 140::.ob (RSnkO p.kp p.xp p.lp p.rp H s.k)::RG p.qp c.cap (c.cap-s.L.length-s.out) s.out gv::.mem H::RRtP p.rr c.b c.m c.j s.fails s.til::F) Xi
   rw[← hF2]at hS
   have hend:s.hold c.most=⟨s.k,s.L.drop (min c.most s.L.length),s.out+min c.most s.L.length,s.fails,s.til,joinL (s.L.take (min c.most s.L.length)),min c.most s.L.length⟩:=by
    unfold PWt.hold
    rw[if_pos hn]
    rcases Nat.le_total c.most s.L.length with h|h
    ·rw[Nat.min_eq_left h]
    ·rw[Nat.min_eq_right h,List.drop_eq_nil_of_le h,List.take_of_length_le h,List.drop_eq_nil_of_le (Nat.le_refl _),List.take_of_length_le (Nat.le_refl _)]
   have hS:=OwnSl.nil (t:=46) (sz:=3) hS
   have hS:SL W (.ob (OwnSl (.slice none 0 0) 46 3 ([]:List ItV).length (([]:List ItV).map encIt).flatten)::.pt p.yp (wtcells p.kp p.qp p.rr c.most s.held.lsn ov nv s.n) 140::.ob (RSnkO p.kp p.xp p.lp p.rp H s.k)::RG p.qp c.cap (c.cap-s.L.length-s.out) (s.out+0) gv::.mem H::F2) w:=hS
   refine⟨λus w=>∃(i:Nat) (lv gv:Value) (vs:List ItV) (H2:Heap),us=[lv]∧vs.length=i∧i≤c.most∧i≤s.L.length∧H.le H2∧Its H2 vs (s.L.take i)∧RdG H2 gv (s.L.drop i)∧SL W (.ob (OwnSl lv 46 3 vs.length (vs.map encIt).flatten)::.pt p.yp (wtcells p.kp p.qp p.rr c.most s.held.lsn ov nv s.n) 140::.ob (RSnkO p.kp p.xp p.lp p.rp H2 s.k)::RG p.qp c.cap (c.cap-s.L.length-s.out) (s.out+i) gv::.mem H2::F2) w,
    λus _=>match us with|[.slice _ n _]=>c.most-n|_=>0,⟨0,.slice none 0 0,gv,[],H,rfl,rfl,by omega,by omega,Heap.le_refl H,⟨rfl,λj h=>by simp at h⟩,hg,hS⟩,?_⟩
   clear hS hg
   rintro lv w ⟨i,_,gv,vs,H2,hus,hvl,him,hil,h02,hIt,hg,hS⟩
   cases hus
   obtain⟨a,cp,rfl,_⟩:=OwnSl.at hS .hd
   subst hvl
   have hH:vs.length=min c.most s.L.length→∀{w:World},SL W (.ob (OwnSl (.slice a vs.length cp) 46 3 vs.length (vs.map encIt).flatten)::.pt p.yp (wtcells p.kp p.qp p.rr c.most s.held.lsn ov nv s.n) 140::.ob (RSnkO p.kp p.xp p.lp p.rp H2 s.k)::RG p.qp c.cap (c.cap-s.L.length-s.out) (s.out+vs.length) gv::.mem H2::F2) w →
     zg (.slice a vs.length cp) λv61=>zf (ptrO p.yp) λv62=>za 7 v62 λv63=>HSt v63 v61 w λw_10=>HCl 146 [.slice a vs.length cp] w_10 λv67 w_11=>zl 0 v67 λv68=>zl 1 v67 λv69=>zf (ptrO p.yp) λv70=>za 4 v70 λv71=>zn 3 v71 v68 w_11 λw_12=>
     ∃H2,([]:List Value)=[]∧H.le H2∧SL W (.ob (RWrO p c H2 (s.hold c.most))::.mem H2::F) w_12:=λhvm w hS=>by
    rw[hend,← hvm]
    repeat first|refine Gp ?_|refine Gw λw hS=>?_|refine Gb λb w hS=>?_
    obtain⟨H3,h23,hR,hS⟩:=zz (H:=H2) (v:=.slice a vs.length cp) hS Xp
    have hS:=RSnkO.monoP h23 hS Xr
    have hne:s.L.take vs.length≠[]:=λh=>by
     have:=congrArg List.length h
     rw[List.length_take,List.length_nil]at this
     omega
    (apply zd (qF H3 (.slice a vs.length cp) vs (s.L.take vs.length) hR (hIt.mono h23) (tabs:=tabs) ⟨λx hx=>hI.it x (List.mem_of_mem_take hx),hI.rise.take _,by rw[List.length_take];omega⟩ hne) hS;exact Xp;clear hS)
    rintro _ post ⟨xv,H4,h34,rfl,hx,rfl⟩ w hS
    (try simp only[app]at hS)
    have hS:=RSnkO.monoP h34 hS Xr
    have hxl:=hx.lsn
    obtain⟨xl,xo,xn⟩:=xv
    simp only at hxl
    subst hxl
    repeat first|refine Gp ?_|refine Gw λw hS=>?_|refine Gb λb w hS=>?_
    refine YZ (o:=4) (vs:=encIt ⟨(joinL (s.L.take vs.length)).lsn,xo,xn⟩) hS Xu rfl (by show 7≤8;decide) (encIt_one hx) λw hS=>?_
    simp only[encIt,List.take,List.drop,List.cons_append,List.nil_append]at hS
    rw[hF2]at hS
    have h24:=Heap.le_trans h23 h34
    have hS:=RWrO.putN (p:=p) (c:=c) (held:=joinL (s.L.take vs.length)) (L:=s.L.drop vs.length) hS hx (hg.mono h24) Xp (by rw[List.length_drop];omega)
    exact⟨H4,rfl,Heap.le_trans h02 h24,SL.into hS Xi⟩
   repeat first|refine Gp ?_|refine Gw λw hS=>?_|refine Gb λb w hS=>?_
   refine ze (λh=>?_) (λh=>hH (by omega) hS)
   repeat first|refine Gp ?_|refine Gw λw hS=>?_|refine Gb λb w hS=>?_
   refine zq hg ?_
   rw[List.length_map,List.length_drop]
   repeat first|refine Gp ?_|refine Gw λw hS=>?_|refine Gb λb w hS=>?_
   refine ze (λh2=>?_) (λh2=>hH (by omega) hS)
   have hi2:vs.length<s.L.length:=by omega
   clear hH
   have hw:=hI.it _ (List.getElem_mem hi2)
   have hIt3:=λ{H3:Heap} (h23:H2.le H3) {x:ItV} (hx:ItIs H3 x s.L[vs.length])=>its_take (hIt.mono h23) hi2 hx
   have hg:RdSl H2 1 gv (strI s.L[vs.length]::(s.L.drop (vs.length+1)).map strI).length ((strI s.L[vs.length]::(s.L.drop (vs.length+1)).map strI).map .string):=by
    rw[List.drop_eq_getElem_cons hi2]at hg;exact hg
   generalize s.L[vs.length]=z at *
   repeat first|refine Gp ?_|refine Gw λw hS=>?_|refine Gb λb w hS=>?_
   (apply zd (rpop_yes p.qp c.cap (c.cap-s.L.length-s.out) (s.out+vs.length) gv H2 (strI z) ((s.L.drop (vs.length+1)).map strI) hg (by omega)) hS;exact Xp;clear hS)
   rintro _ post ⟨gv2,rfl,hg2,rfl⟩ w hS
   (try simp only[app]at hS)
   repeat first|refine Gp ?_|refine Gw λw hS=>?_|refine Gb λb w hS=>?_
   refine ZY (bs:=bytesItem z) hS Tryz.underlying9 Tryz.underlying54 Tryz.underlying5 λbv w hS=>?_
   (apply zd (Yg (.ob (OwnSl bv 5 1 (bytesItem z).length ((bytesItem z).map u8c))) H2 bv (bytesItem z) Rdb.own (by have:=(bytesItem_len hw.may).2;omega)) hS;exact Xp;clear hS)
   rintro r post hq w hS
   unfold DecIQ at hq
   rw[strI_dec hw.may]at hq
   obtain⟨x,H3,h23,rfl,hx,rfl⟩:=hq
   (try simp only[app]at hS)
   have hS:=RSnkO.monoP h23 hS Xr
   repeat first|refine Gp ?_|refine Gw λw hS=>?_|refine Gb λb w hS=>?_
   refine zP hS Xu rfl rfl (encIt_one hx) λw hS=>?_
   refine zA hS Xh rfl ?_
   refine Gb λyb w hS=>?_
   refine zw (n:=vs.length) (m:=1) hS Xr (src_pt0 (cs:=encIt x) hS Xh rfl) rfl rfl (encIt_one hx) (by omega) (by omega) λlv2 w hS=>?_
   rw[← flat_snoc]at hS
   rw[show s.out+vs.length+1=s.out+(vs.length+1) by omega]at hS
   have hS:=hS.snocL (xs:=vs) (x:=x)
   obtain⟨a2,cp2,rfl,_⟩:=OwnSl.at hS .hd
   refine⟨⟨vs.length+1,_,gv2,vs++[x],H3,rfl,by simp,by omega,by omega,Heap.le_trans h02 h23,hIt3 h23 hx,hg2.mono h23,SL.into hS Xi⟩,?_⟩
   simp only[List.length_append,List.length_singleton]
   omega
  ·have hS:=RWrO.put s hS hi hg Xp
   have e:s.hold c.most=s:=by unfold PWt.hold;rw[if_neg (by omega)]
   rw[e]
   exact⟨H,rfl,Heap.le_refl H,SL.into hS Xi⟩
 clear hS
 rintro w ⟨H2,-,h02,hS⟩
 rw[← hk1]at hk hkeep
 clear hI hk1 hr
 generalize s.hold c.most=s1 at *
 obtain⟨ov,nv,gv,⟨hi,hgv⟩,hS⟩:=RWrO.open hS Xr
 obtain⟨hm,hio,hkeys⟩:=hI1.iok hn1
 have hf0:=hI1.f0
 have hf1:=hI1.f1
 have hroom:=hI1.room
 have hcap:=hI1.cap
 have hg:=giveN_le s1.n s1.out
 repeat first|refine Gp ?_|refine Gw λw hS=>?_|refine Gb λb w hS=>?_
 refine yS (vs:=[.int .i64 s1.held.lsn,ov,nv]) hS Xh rfl it_cells ?_
 have hI2:ItIs H2 ⟨s1.held.lsn,ov,nv⟩ s1.held:=hi
 (apply zd (Z1 p.kp p.xp p.lp p.rp H2 s1.k ⟨s1.held.lsn,ov,nv⟩ s1.held hI2 hk hkeep) hS;exact Xp;clear hS)
 rintro _ post ⟨rfl,H3,h23,rfl⟩ w hS
 (try simp only[app]at hS)
 have h03:=Heap.le_trans h02 h23
 have hi3:=hi.mono h23
 have hg3:=hgv.mono h23
 unfold PWt.hand
 generalize s1.k.commitK s1.held=y at *
 obtain⟨k',e⟩:=y
 simp only at hS ⊢
 repeat first|refine Gp ?_|refine Gw λw hS=>?_|refine Gb λb w hS=>?_
 refine ze (λh0=>?_) (λh0=>?_)
 ·rw[if_pos h0]
  repeat first|refine Gp ?_|refine Gw λw hS=>?_|refine Gb λb w hS=>?_
  (apply zd (qW s1.n p.qp c.cap (c.cap-s1.L.length-s1.out) s1.out gv (by omega)) hS;exact Xp;clear hS)
  (rintro v post ⟨rfl,rfl⟩ w hS;(try simp only[app]at hS);(repeat (first|refine Gp ?_|refine Gw λw hS=>?_|refine Gb λb w hS=>?_)))
  (apply zd (Y2 p.rr c.b c.m c.j s1.fails s1.til) hS;exact Xp;clear hS)
  (rintro v post ⟨rfl,rfl⟩ w hS;(try simp only[app]at hS);(repeat (first|refine Gp ?_|refine Gw λw hS=>?_|refine Gb λb w hS=>?_)))
  refine YZ (o:=4) (vs:=[.int .i64 0,.slice none 0 0,.slice none 0 0]) hS Xu rfl (by show 7≤8;decide) (by simp[Value.oneCell']) λw hS=>?_
  simp only[List.take,List.drop,List.cons_append,List.nil_append]at hS
  have hS:SL W (_::_::_::_::.pt p.yp (wtcells p.kp p.qp p.rr c.most it0.lsn (.slice none 0 0) (.slice none 0 0) 0) 140::_) w:=hS
  have hS:=RWrO.putN (p:=p) (c:=c) (H:=H3) (L:=s1.L) (held:=it0) (n:=0) (ov:=.slice none 0 0) (nv:=.slice none 0 0) hS ⟨rfl,RdSl.nil _ _,RdSl.nil _ _⟩ hg3 Xp (by omega)
  exact⟨_,⟨rfl,H3,h03,rfl⟩,SL.into hS Xi⟩
 ·rw[if_neg h0]
  repeat first|refine Gp ?_|refine Gw λw hS=>?_|refine Gb λb w hS=>?_
  refine ze (λh9=>?_) (λh9=>?_)
  ·rw[if_pos h9]
   repeat first|refine Gp ?_|refine Gw λw hS=>?_|refine Gb λb w hS=>?_
   (apply zd (Y1 p.rr c.b c.m c.j s1.fails s1.til now draw (by omega)) hS;exact Xp;clear hS)
   (rintro v post ⟨rfl,rfl⟩ w hS;(try simp only[app]at hS);(repeat (first|refine Gp ?_|refine Gw λw hS=>?_|refine Gb λb w hS=>?_)))
   have hS:=RWrO.putN (p:=p) (c:=c) (H:=H3) (L:=s1.L) (held:=s1.held) hS hi3 hg3 Xp rfl
   exact⟨_,⟨rfl,H3,h03,rfl⟩,SL.into hS Xi⟩
  ·rw[if_neg h9]
   have hS:=RWrO.putN (p:=p) (c:=c) (H:=H3) (L:=s1.L) (held:=s1.held) hS hi3 hg3 Xp rfl
   exact⟨_,⟨rfl,H3,h03,rfl⟩,SL.into hS Xi⟩
theorem eq_op(a b:AOp)(w:World):(Op.equal 96 (agg (encOp a)) (agg (encOp b))).run Tryz.prog w= .ok (decide (a=b)) w:=by
 refine run_eqG Tryz.underlying96 (by kernel_rfl) ?_
 obtain⟨a1,a2,a3,a4,a5⟩:=a
 obtain⟨b1,b2,b3,b4,b5⟩:=b
 simp[encOp,Op.eqFields,part,run_equalIn_int (h:=Tryz.underlying2),run_equalIn_int (h:=Tryz.underlying3),run_equalIn_bool' (h:=Tryz.underlying4),run_equalIn_string (h:=Tryz.underlying9),Result.andThen,toList_inj]
 by_cases h0:a1=b1<;>by_cases h1:a2=b2<;>by_cases h2:a3=b3<;>by_cases h3:a4=b4<;>by_cases h4:a5=b5<;>simp[*]
theorem one_op(a b:AOp):SP 240 [agg (encOp a),agg (encOp b)] [] (Gives (.bool (decide (a=b))) []):=by
 intro W F w hS;apply vc240;unfold Vc240;(try simp only[app]at hS)
 refine zB hS λb1 w hS=>?_
 refine zB hS λb2 w hS=>?_
 refine zA hS Xh rfl (zA hS Xh rfl (QU (eq_op a b w) ?_))
 (exact⟨_,⟨rfl,rfl⟩,SL.into hS Xi⟩)
theorem plain_op(H:Heap)(u v:Value)(A B:List AOp)(hu:RdOps H u A)(hv:RdOps H v B)(hn:A.length≤9223372036854775806):
  SP 204 [u,v] [.mem H] (Gives (.bool (decide (A=B))) [.mem H]):=by
 intro W F w hS;apply vc204;unfold Vc204;(try simp only[app]at hS)
 (apply zd (same_gen encOp_len' rfl (λv0 v1 v2 w R h=>vc239 v0 v1 v2 w R h) one_op H u v A B hu hv hn) hS;exact Xp;clear hS)
 rintro v post ⟨rfl,rfl⟩ w hS
 (try simp only[app]at hS)
 (exact⟨_,⟨rfl,rfl⟩,SL.into hS Xi⟩)
theorem eq_note(a b:PNote)(w:World):(Op.equal 98 (agg (encNote a)) (agg (encNote b))).run Tryz.prog w= .ok (decide (a=b)) w:=by
 refine run_eqG Tryz.underlying98 (by kernel_rfl) ?_
 obtain⟨a1,a2,a3,a4,a5,a6,a7⟩:=a
 obtain⟨b1,b2,b3,b4,b5,b6,b7⟩:=b
 simp[encNote,Op.eqFields,part,run_equalIn_int (h:=Tryz.underlying2),run_equalIn_int (h:=Tryz.underlying3),run_equalIn_bool' (h:=Tryz.underlying4),Result.andThen]
 by_cases h0:a1=b1<;>by_cases h1:a2=b2<;>by_cases h2:a3=b3<;>by_cases h3:a4=b4<;>by_cases h4:a5=b5<;>by_cases h5:a6=b6<;>by_cases h6:a7=b7<;>simp[*]
theorem one_note(a b:PNote):SP 242 [agg (encNote a),agg (encNote b)] [] (Gives (.bool (decide (a=b))) []):=by
 intro W F w hS;apply vc242;unfold Vc242;(try simp only[app]at hS)
 refine zB hS λb1 w hS=>?_
 refine zB hS λb2 w hS=>?_
 refine zA hS Xh rfl (zA hS Xh rfl (QU (eq_note a b w) ?_))
 (exact⟨_,⟨rfl,rfl⟩,SL.into hS Xi⟩)
theorem plain_note(H:Heap)(u v:Value)(A B:List PNote)(hu:RdNts H u A)(hv:RdNts H v B)(hn:A.length≤9223372036854775806):
  SP 205 [u,v] [.mem H] (Gives (.bool (decide (A=B))) [.mem H]):=by
 intro W F w hS;apply vc205;unfold Vc205;(try simp only[app]at hS)
 (apply zd (same_gen encNote_len rfl (λv0 v1 v2 w R h=>vc241 v0 v1 v2 w R h) one_note H u v A B hu hv hn) hS;exact Xp;clear hS)
 rintro v post ⟨rfl,rfl⟩ w hS
 (try simp only[app]at hS)
 (exact⟨_,⟨rfl,rfl⟩,SL.into hS Xi⟩)
theorem item_same(H:Heap)(x y:ItV)(t:PItem)(hx:ItIs H x t)(hy:ItIs H y t)(h1:t.ops.length≤9223372036854775806)(h2:t.notes.length≤9223372036854775806):
  SP 150 [agg (encIt x),agg (encIt y)] [.mem H] (Gives (.bool true) [.mem H]):=by
 intro W F w hS;apply vc150;unfold Vc150;(try simp only[app]at hS)
 refine zB hS λxb w hS=>?_
 refine zB hS λyb w hS=>?_
 have e1:encIt x=[.int .i64 t.lsn,x.ov,x.nv]:=by unfold encIt;rw[hx.lsn]
 have e2:encIt y=[.int .i64 t.lsn,y.ov,y.nv]:=by unfold encIt;rw[hy.lsn]
 rw[e1,e2]at hS
 repeat first|refine Gp ?_|refine Gw λw hS=>?_|refine Gb λb w hS=>?_
 refine ze (λ_=>?_) (λh=>absurd rfl h)
 repeat first|refine Gp ?_|refine Gw λw hS=>?_|refine Gb λb w hS=>?_
 (apply zd (plain_op H x.ov y.ov t.ops t.ops hx.ops hy.ops h1) hS;exact Xp;clear hS)
 (rintro v post ⟨rfl,rfl⟩ w hS;(try simp only[app]at hS);(repeat (first|refine Gp ?_|refine Gw λw hS=>?_|refine Gb λb w hS=>?_)))
 rw[decide_eq_true rfl]
 refine zy ?_
 repeat first|refine Gp ?_|refine Gw λw hS=>?_|refine Gb λb w hS=>?_
 (apply zd (plain_note H x.nv y.nv t.notes t.notes hx.nts hy.nts h2) hS;exact Xp;clear hS)
 (rintro v post ⟨rfl,rfl⟩ w hS;(try simp only[app]at hS);(repeat (first|refine Gp ?_|refine Gw λw hS=>?_|refine Gb λb w hS=>?_)))
 rw[decide_eq_true rfl]
 (exact⟨_,⟨rfl,rfl⟩,SL.into hS Xi⟩)
theorem PInv.up{n:Nat}{k:PSink}{j:Nat}{xs:List PItem}{m:Option PItem}(h:PInv n k j xs m)(hj:j≤100)(hu:Up k){x:PItem}{L:List Rq}(hf:fitsR n k.reqs x=some L):
  Up (k.commitK x).1∧(k.commitK x).1.plan=k.plan.drop 1∧(k.commitK x).2=(if k.plan=[] then 0 else 9) ∧
   ((k.lsn<x.lsn∧(k.commitK x).1.tr=((putAll k.ts x.ops).1,L,x.lsn)∧PInv n (k.commitK x).1 (j+1) (xs++[x]) none) ∨
    ((k.lsn<x.lsn→k.plan≠[])∧(k.commitK x).1.tr=k.tr∧∃m',PInv n (k.commitK x).1 (j+1) xs m')):=by
 have hlen:=h.len
 have hm:=(fitsR_may hf).1
 have h1:¬(mayItem x=false∨(k.lsn<x.lsn∧fitsR k.ts.length k.reqs x=none)):=by
  rintro (h1|⟨_,h1⟩)
  ·rw[hm]at h1;cases h1
  ·rw[h.s.len,hf]at h1;cases h1
 by_cases hp:k.plan=[]
 ·by_cases hl:k.lsn<x.lsn
  ·obtain⟨g1,g2,g3,g4,g5,g6⟩:=h.good hj hu.off hu.arm hp hl hf
   exact⟨⟨g4,g5⟩,by rw[g6,hp];rfl,by rw[if_pos hp];exact g1,.inl ⟨hl,g3,g2⟩⟩
  ·rw[commitK_old hu.off hp hm hl]
   exact⟨hu,by rw[hp];rfl,by rw[if_pos hp],.inr ⟨λh=>absurd h hl,rfl,m,h.mono (by omega)⟩⟩
 ·obtain⟨f,r,hp'⟩:∃f r,k.plan=f::r:=by
   cases hk:k.plan with
   | nil=>exact absurd hk hp
   | cons f r=>exact⟨f,r,rfl⟩
  have hfm:mayFt f=true:=h.plm f (by rw[hp'];exact .head _)
  obtain⟨ys,m2,hI⟩:=h.commit hj x
  have hk':SInv n {k with plan:=r} xs m:=h.s.plan r
  rw[if_neg hp]
  have e0:k.commitK x=if f.kind=3∧k.lsn<x.lsn then ((PSink.writeK {k with plan:=r} x L).1,if (PSink.writeK {k with plan:=r} x L).2=0 then 9 else (PSink.writeK {k with plan:=r} x L).2) else if f.kind=2∧k.lsn<x.lsn then ((PSink.tearK {k with plan:=r} x f.keep).1,if (PSink.tearK {k with plan:=r} x f.keep).2=0 then 9 else (PSink.tearK {k with plan:=r} x f.keep).2) else ({k with plan:=r},9):=by
   unfold PSink.commitK
   rw[if_neg h1,if_neg (by rw[hu.off];decide),hp']
   simp only
   rw[h.s.len,hf]
   simp only[Option.getD_some]
   by_cases hl:k.lsn<x.lsn
   ·simp only[hl,and_true,if_true]
   ·by_cases h3:f.kind=3
    ·simp[hl,h3]
    ·simp[hl,h3]
  have hd:k.plan.drop 1=r:=by rw[hp'];rfl
  rw[hd]
  by_cases h3:f.kind=3∧k.lsn<x.lsn
  ·rw[if_pos h3]at e0
   rcases writeK_inv hk' h.d.arm0 hu.off (by omega) (L:=L) hf h3.2 with ⟨w1,w2,w3,w4,w5,w6,w7⟩|⟨_,_,_,_,_,w6,_⟩
   ·rw[w1,if_pos rfl]at e0
    rw[e0]at hI ⊢
    exact⟨⟨w5,w6 hu.arm⟩,w4,rfl,.inl ⟨h3.2,w3,hI.of_s w2 (by rw[List.length_append,List.length_singleton];omega)⟩⟩
   ·exact absurd hu.arm w6
  ·rw[if_neg h3]at e0
   by_cases h2:f.kind=2∧k.lsn<x.lsn
   ·rw[if_pos h2]at e0
    have hk0:0≤f.keep:=by
     unfold mayFt at hfm
     rw[decide_eq_true_eq]at hfm
     omega
    obtain⟨j1,j2,j3,_,j5⟩:=tearK_inv hk' h.d.arm0 hu.off (by omega) hm hk0
    rcases j5 with ⟨q1,q2,q3⟩|⟨_,_,q3⟩
    ·rw[q1,if_pos rfl]at e0
     rw[e0]at hI ⊢
     exact⟨⟨q2,q3 hu.arm⟩,j3,rfl,.inr ⟨λ_=>hp,j2,none,hI.of_s j1 (by omega)⟩⟩
    ·exact absurd hu.arm q3
   ·rw[if_neg h2]at e0
    rw[e0]at hI ⊢
    exact⟨⟨hu.off,hu.arm⟩,rfl,rfl,.inr ⟨λ_=>hp,rfl,m,hI.of_s hk' (by omega)⟩⟩
def opsOf(l:List PItem):List AOp:=(l.map (·.ops)).flatten
def trI(n:Nat)(l:List PItem):Tr:=((putAll (List.replicate n []) (opsOf l)).1,[],lastL 0 l)
theorem opsOf_append(l l':List PItem):opsOf (l++l')=opsOf l++opsOf l':=by simp[opsOf]
theorem joinL_ops(l:List PItem):(joinL l).ops=opsOf l:=by
 suffices h:∀(l:List PItem) (a:PItem),(l.foldl jn a).ops=a.ops++opsOf l from h l it0
 intro l
 induction l with
 | nil=>intro a;simp[opsOf]
 | cons x l ih=>intro a;rw[List.foldl_cons,ih];simp[jn,opsOf]
theorem trI_append(n:Nat)(l l':List PItem)(h:l'≠[]):trI n (l++l')=((putAll (trI n l).1 (joinL l').ops).1,[],(joinL l').lsn):=by
 unfold trI
 rw[opsOf_append,putAll_append,joinL_ops,joinL_lsn,lastL_append]
 have:lastL (lastL 0 l) l'=lastL 0 l':=by
  cases l' with
  | nil=>exact absurd rfl h
  | cons x r=>rfl
 rw[this]
structure AInv(c:WCf)(tabs:Nat)(s:PWt)(done hd:List PItem)(j f bt:Nat):Prop where
 w:WtInv c tabs s f
 it:∀x∈done++hd++s.L,WIt tabs x
 rise:RiseI 0 (done++hd++s.L)
 hn:hd.length=s.n
 held:s.held=joinL hd
 up:Up s.k
 p:∃xs m,PInv tabs s.k j xs m∧xs.length=bt
 tr:s.k.tr=trI tabs done∨(hd≠[]∧s.k.tr=trI tabs (done++hd))
theorem AInv.put{c:WCf}{tabs:Nat}{s:PWt}{done hd:List PItem}{j f bt:Nat}(h:AInv c tabs s done hd j f bt){x:PItem}(hx:WIt tabs x)(hl:lastL 0 (done++hd++s.L)<x.lsn)(hr:s.L.length+s.out<c.cap):AInv c tabs {s with L:=s.L++[x]} done hd j f bt:=by
 have hra:=h.rise.snoc hl
 have hla:RiseI 0 (s.L++[x]):=by
  rw[List.append_assoc]at hra
  have:=RiseI.append.1 hra
  exact this.2.mono this.1.last
 refine⟨⟨h.w.cap1,h.w.cap,h.w.most1,h.w.most,λy hy=>?_,hla,?_,h.w.out,h.w.held,h.w.f0,h.w.f1⟩,λy hy=>?_,by rw[← List.append_assoc];exact hra,h.hn,h.held,h.up,h.p,h.tr⟩
 ·rcases List.mem_append.1 hy with hy|hy
  ·exact h.w.it y hy
  ·rw[List.mem_singleton.1 hy];exact hx
 ·show (s.L++[x]).length+s.out≤c.cap
  rw[List.length_append,List.length_singleton];omega
 ·rw[← List.append_assoc]at hy
  rcases List.mem_append.1 hy with hy|hy
  ·exact h.it y hy
  ·rw[List.mem_singleton.1 hy];exact hx
theorem AInv.hold{c:WCf}{tabs:Nat}{s:PWt}{done hd:List PItem}{j f bt:Nat}(h:AInv c tabs s done hd j f bt){now:Int}(hr:s.ready now=true):
  ∃hd',AInv c tabs (s.hold c.most) done hd' j f bt∧hd'≠[]∧hd++s.L=hd'++(s.hold c.most).L∧(s.n=0→hd'=s.L.take c.most)∧(s.n≠0→hd'=hd)∧(s.hold c.most).k=s.k∧(s.hold c.most).fails=s.fails∧(s.hold c.most).til=s.til:=by
 obtain⟨hw,hp⟩:=h.w.hold hr
 have hn:=h.hn
 have hit:=h.it
 have hri:=h.rise
 unfold PWt.hold at *
 by_cases h0:s.n=0
 ·rw[if_pos h0]at *
  have hhd:hd=[]:=List.eq_nil_of_length_eq_zero (by omega)
  subst hhd
  have htr:s.k.tr=trI tabs done:=by
   rcases h.tr with h|⟨h,_⟩
   ·exact h
   ·exact absurd rfl h
  have e:done++s.L.take c.most++s.L.drop c.most=done++[]++s.L:=by simp
  have hpn:0<min c.most s.L.length:=hp
  refine⟨s.L.take c.most,⟨hw,by rw[e];exact hit,by rw[e];exact hri,by rw[List.length_take],rfl,h.up,h.p,.inl htr⟩,λh=>?_,by simp,λ_=>rfl,λh=>absurd h0 h,rfl,rfl,rfl⟩
  have:=congrArg List.length h
  rw[List.length_take,List.length_nil]at this
  omega
 ·rw[if_neg h0]at *
  exact⟨hd,h,λh=>by subst h;simp at hn;omega,rfl,λh=>absurd h h0,λ_=>rfl,rfl,rfl,rfl⟩
theorem AInv.step{c:WCf}{tabs:Nat}{s:PWt}{done hd:List PItem}{j f bt:Nat}(h:AInv c tabs s done hd j f bt)(hj:j≤100){now draw:Int}(hr:s.ready now=true):
  ∃hd',hd'≠[]∧hd++s.L=hd'++(s.step c now draw).1.L∧(s.n=0→hd'=s.L.take c.most)∧(s.n≠0→hd'=hd)∧(s.step c now draw).1.k.plan=s.k.plan.drop 1 ∧
   ((s.k.plan=[]∧(s.step c now draw).2=(6,0)∧(s.step c now draw).1.n=0∧(s.step c now draw).1.out=0∧(s.step c now draw).1.fails=0∧∃bt',bt'≤bt+1∧(s.n=0→bt'=bt+1)∧AInv c tabs (s.step c now draw).1 (done++hd') [] (j+1) (f+1) bt') ∨
    (s.k.plan≠[]∧(s.step c now draw).2=(7,0)∧(s.step c now draw).1.n=hd'.length∧(s.step c now draw).1.fails=s.fails+1∧(s.step c now draw).1.til=clkR now+waitB (s.fails+1) c.b c.m c.j draw∧∃bt',AInv c tabs (s.step c now draw).1 done hd' (j+1) (f+1) bt')):=by
 obtain⟨hd',hA,hne,he,hlen,hlen2,hk,hfl,_⟩:=h.hold hr
 have hst:s.step c now draw=(s.hold c.most).hand c now draw:=by unfold PWt.step;rw[if_pos hr]
 have htr0:s.n=0→s.k.tr=trI tabs done:=λh0=>by
  rcases h.tr with h1|⟨h1,_⟩
  ·exact h1
  ·have:=h.hn;exact absurd (List.eq_nil_of_length_eq_zero (by omega)) h1
 have hpos:0<hd'.length:=List.length_pos_iff.2 hne
 have hnn:=hA.hn
 have hw':=hA.w.hand (by omega) now draw
 rw[hst]
 refine⟨hd',hne,?_,hlen,hlen2,?_⟩
 ·rw[he]
  congr 1
  unfold PWt.hand
  split
  ·rfl
  ·split<;>rfl
 rw[← hk]at htr0 ⊢
 rw[← hfl]
 generalize s.hold c.most=s1 at *
 obtain⟨xs,m,hP,hbt⟩:=hA.p
 have hJ:JOk tabs (joinL hd') hd'.length:=by
  have hr1:RiseI 0 hd':=by
   have h1:=(RiseI.append.1 hA.rise).1
   have:=RiseI.append.1 h1
   exact this.2.mono this.1.last
  exact joinL_ok (λx hx=>hA.it x (List.mem_append_left _ (List.mem_append_right _ hx))) hr1
 have h64:hd'.length≤64:=by
  have h1:=hA.w.room
  have h2:=hA.w.out
  have h3:=hA.w.cap
  omega
 obtain⟨hm,ht⟩:=hJ.may hpos h64
 have hq:s1.k.reqs=[]:=by
  rcases hA.tr with h1|⟨_,h1⟩<;>exact congrArg (·.2.1) h1
 have hfit:fitsR tabs s1.k.reqs s1.held=some []:=by rw[hA.held,hq];exact fits_nil hm ht hJ.nts
 obtain⟨u1,u2,u3,u4⟩:=hP.up hj hA.up hfit
 have htr:(s1.k.commitK s1.held).1.tr=trI tabs (done++hd')∨((s1.k.commitK s1.held).1.tr=trI tabs done∧s1.k.plan≠[]):=by
  have hle:lastL 0 done<(joinL hd').lsn:=by
   rw[joinL_lsn]
   have h1:=(RiseI.append.1 (RiseI.append.1 hA.rise).1).2
   cases hd' with
   | nil=>exact absurd rfl hne
   | cons x r=>have:=h1.2.last;have:=h1.1;show _<lastL x.lsn r;omega
  rcases hA.tr with h1|⟨_,h1⟩
  ·have hlsn:s1.k.lsn=lastL 0 done:=congrArg (·.2.2) h1
   have hts:s1.k.ts=(trI tabs done).1:=congrArg (·.1) h1
   rcases u4 with ⟨_,v2,_⟩|⟨v1,v2,_⟩
   ·left;rw[v2,trI_append _ _ _ hne,hts,hA.held]
   ·right;exact⟨by rw[v2,h1],v1 (by rw[hlsn,hA.held];exact hle)⟩
  ·have hlsn:s1.k.lsn=(joinL hd').lsn:=by rw[show s1.k.lsn=lastL 0 (done++hd') from congrArg (·.2.2) h1,joinL_lsn,lastL_append];cases hd' with
    | nil=>exact absurd rfl hne
    | cons x r=>rfl
   rcases u4 with ⟨v1,_⟩|⟨v1,v2,_⟩
   ·rw[hlsn,hA.held]at v1;omega
   ·left;rw[v2,h1]
 have hbt':∃bt',bt'≤bt+1∧(s1.k.tr=trI tabs done→s1.k.plan=[]→bt'=bt+1)∧∃xs m,PInv tabs (s1.k.commitK s1.held).1 (j+1) xs m∧xs.length=bt':=by
  rcases u4 with ⟨_,_,v3⟩|⟨v1,v2,m',v3⟩
  ·exact⟨bt+1,Nat.le_refl _,λ_ _=>rfl,_,_,v3,by rw[List.length_append,List.length_singleton,hbt]⟩
  ·refine⟨bt,by omega,λh1 h2=>?_,_,_,v3,hbt⟩
   rcases htr with h3|⟨_,h3⟩
   ·rw[v2,h1]at h3
    have h4:=congrArg (·.2.2) h3
    have h5:lastL 0 done=lastL 0 (done++hd'):=h4
    rw[lastL_append]at h5
    have h6:=(RiseI.append.1 (RiseI.append.1 hA.rise).1).2
    cases hd' with
    | nil=>exact absurd rfl hne
    | cons x r=>have h7:=h6.2.last;have h8:=h6.1;have h5:lastL 0 done=lastL x.lsn r:=h5;omega
   ·exact absurd h2 h3
 obtain⟨bt',hb1,hb2,hb3⟩:=hbt'
 have hg:giveN s1.n s1.out=s1.n:=by have:=hA.w.out;unfold giveN;omega
 unfold PWt.hand at *
 by_cases hp:s1.k.plan=[]
 ·rw[if_pos hp]at u3
  rw[if_pos u3]at hw' ⊢
  refine⟨u2,.inl ⟨hp,rfl,rfl,?_,rfl,bt',hb1,λh0=>hb2 (htr0 h0) hp,⟨hw',?_,?_,rfl,rfl,u1,hb3,.inl ?_⟩⟩⟩
  ·have:=hA.w.out;show s1.out-giveN s1.n s1.out=0;omega
  ·show ∀x∈done++hd'++[]++s1.L,WIt tabs x
   rw[List.append_nil];exact hA.it
  ·show RiseI 0 (done++hd'++[]++s1.L)
   rw[List.append_nil];exact hA.rise
  ·rcases htr with h|⟨_,h⟩
   ·exact h
   ·exact absurd hp h
 ·rw[if_neg hp]at u3
  rw[if_neg (by rw[u3];decide),if_pos u3]at hw' ⊢
  refine⟨u2,.inr ⟨hp,rfl,hnn.symm,rfl,rfl,bt',⟨hw',hA.it,hA.rise,hnn,hA.held,u1,hb3,?_⟩⟩⟩
  rcases htr with h|⟨h,_⟩
  ·exact .inr ⟨hne,h⟩
  ·exact .inl h
structure PCfg where
 tables:Int
 late:Int
 size:Int
 queue:Int
 chunk:Int
 batch:Int
 base:Int
 most:Int
 jitter:Int
 every:Int
def encCfg(c:PCfg):List Value:=[.int .i64 c.tables,.int .i64 c.late,.int .i64 c.size,.int .i64 c.queue,.int .i64 c.chunk,.int .i64 c.batch,.int .i64 c.base,.int .i64 c.most,.int .i64 c.jitter,.int .i64 c.every]
theorem encCfg_one(c:PCfg):∀v∈encCfg c,v.oneCell'=true:=by simp[encCfg,Value.oneCell']
def cfgSz(j:Nat):Int:=([64,128,256,1024]:List Int)[j]!
theorem cfgSz_at{j:Nat}(h:j<4):([.int .i64 64,.int .i64 128,.int .i64 256,.int .i64 1024]:List Value)[0+j*1]?=some (.int .i64 (cfgSz j)):=by
 match j,h with
 | 0,_=>rfl
 | 1,_=>rfl
 | 2,_=>rfl
 | 3,_=>rfl
theorem cfgSz_in{j:Nat}(h:j<4):64≤cfgSz j∧cfgSz j≤1024:=by
 match j,h with
 | 0,_=>decide
 | 1,_=>decide
 | 2,_=>decide
 | 3,_=>decide
def cfgOf(c:PCfg):PCfg:=
 ⟨1+(md c.tables 4:Int),(md c.late (2 ^ (1+md c.tables 4)):Int),cfgSz (md c.size 4),1+(md c.queue 5:Int),1+(md c.chunk 4:Int),1+(md c.batch 4:Int),1+(md c.base 4:Int),1+(md c.base 4:Int)+(md c.most 12:Int),(md c.jitter 4:Int),1+(md c.every 8:Int)⟩
theorem s_shlK{a:Int}{k:IntKind}{n:Nat}{K:Value→Prop}(hn:n≤60)(hr : -9223372036854775808≤a*2 ^ n∧a*2 ^ n≤9223372036854775807)(h:K (.int .i64 (a*2 ^ n))):zc .shl (.int .i64 a) (.int k (n:Int)) K:=by
 refine⟨.int .i64 (a*2 ^ n),?_,h⟩
 have hmin:min n 64=n:=Nat.min_eq_left (by omega)
 show (if ((n:Nat):Int)<0 then none else some (Value.int .i64 (IntKind.i64.wrap (a*2 ^ (min ((n:Nat):Int).toNat 64)))))=_
 rw[if_neg (by omega),Int.toNat_natCast,hmin,IntWalk.i64_in _ hr]
theorem s_cvU{j:IntKind}{n:Nat}{K:Value→Prop}(hr:n≤9223372036854775807)(h:K (.int .u64 (n:Int))):zM .u64 (.int j (n:Int)) K:=zR (by rw[show IntKind.u64.wrap (n:Int)=n by rw[IntKind.wrap_u64];omega];exact h)
def mz(v n:Int):Int:=(md v n.toNat:Int)
theorem modZ(v n:Int)(h:0<n∧n≤9223372036854775807):SP 29 [.int .i64 v,.int .i64 n] [] (Gives (.int .i64 (mz v n)) []):=by
 have:=yg v n.toNat (by omega) (by omega)
 rw[show ((n.toNat:Nat):Int)=n by omega]at this
 exact this
theorem s_idxZ{b o len cap sz:Nat}{k:IntKind}{j:Int}{K:Value→Prop}(h0:0≤j)(hj:j<len)(h:K (.pointer (some ⟨b,o+j.toNat*sz,none⟩))):zj sz (.slice (some ⟨b,o,none⟩) len cap) (.int k j) K:=by
 obtain⟨m,rfl⟩:∃m:Nat,j=m:=⟨j.toNat,by omega⟩
 rw[Int.toNat_natCast]at h
 exact zC (by omega) h
theorem cfgSzZ{j:Int}(h0:0≤j)(h:j<4):([.int .i64 64,.int .i64 128,.int .i64 256,.int .i64 1024]:List Value)[0+j.toNat*1]?=some (.int .i64 (cfgSz j.toNat)):=cfgSz_at (by omega)
set_option maxHeartbeats 4000000 in
theorem qd(c:PCfg):SP 55 [agg (encCfg c)] [] (Gives (agg (encCfg (cfgOf c))) []):=by
 intro W F w hS;apply vc55;unfold Vc55;(try simp only[app]at hS)
 refine zB hS λcb w hS=>?_
 unfold encCfg at hS
 refine Gb λxb w hS=>?_
 obtain⟨ct,cl,cs,cq,cc,cba,cb0,cm,cj,ce⟩:=c
 simp only at hS
 have h1:=md_lt ct 4 (by decide)
 have h2:=md_lt cs 4 (by decide)
 have h3:=md_lt cq 5 (by decide)
 have h4:=md_lt cc 4 (by decide)
 have h5:=md_lt cba 4 (by decide)
 have h6:=md_lt cb0 4 (by decide)
 have h7:=md_lt cm 12 (by decide)
 have h8:=md_lt cj 4 (by decide)
 have h9:=md_lt ce 8 (by decide)
 have g1:0≤mz ct 4∧mz ct 4<4:=⟨Int.natCast_nonneg _,by show (md ct 4:Int)<4;omega⟩
 have g2:0≤mz cs 4:=Int.natCast_nonneg _
 have g2':mz cs 4<((4:Nat):Int):=by show (md cs 4:Int)<4;omega
 have g2'':mz cs 4<4:=g2'
 have g3:0≤mz cq 5∧mz cq 5<5:=⟨Int.natCast_nonneg _,by show (md cq 5:Int)<5;omega⟩
 have g4:0≤mz cc 4∧mz cc 4<4:=⟨Int.natCast_nonneg _,by show (md cc 4:Int)<4;omega⟩
 have g5:0≤mz cba 4∧mz cba 4<4:=⟨Int.natCast_nonneg _,by show (md cba 4:Int)<4;omega⟩
 refine⟨λus w=>∃yb:Nat,us=[.pointer (some ⟨yb,0,none⟩)]∧SL W (.pt yb [.int .i64 (1+mz ct 4),.int .i64 0,.int .i64 (cfgSz (mz cs 4).toNat),.int .i64 (1+mz cq 5),.int .i64 (1+mz cc 4),.int .i64 (1+mz cba 4),.int .i64 0,.int .i64 0,.int .i64 0,.int .i64 0] 109 ::
   .pt xb [.int .i64 0,.int .i64 0,.int .i64 0,.int .i64 0,.int .i64 0,.int .i64 0,.int .i64 0,.int .i64 0,.int .i64 0,.int .i64 0] 109::.pt cb [.int .i64 ct,.int .i64 cl,.int .i64 cs,.int .i64 cq,.int .i64 cc,.int .i64 cba,.int .i64 cb0,.int .i64 cm,.int .i64 cj,.int .i64 ce] 109::F) w,?_,?_⟩
 ·repeat' (first
   | refine Gp ?_
   | refine Gw λw hS=>?_
   | refine Gb λb w hS=>?_
   | ((with_reducible refine zd (modZ _ _ (by decide)) hS (.nil) ?_);clear hS;(rintro v post ⟨rfl,rfl⟩ w hS);(try simp only[app]at hS))
   | (with_reducible refine s_idxZ (by assumption) (by assumption) ?_)
   | (with_reducible refine zS hS (t:=3) Xh (cfgSzZ (by assumption) (by assumption)) ?_)
   | with_reducible refine And.intro ?_ ?_
   | exact⟨_,rfl,SL.into hS Xi⟩)
 ·clear hS
  rintro _ w ⟨yb,hus,hS⟩
  cases hus
  clear g1 g2 g2' g2'' g3 g4 g5
  have hS:SL W (.pt yb [.int .i64 (1+(md ct 4:Int)),.int .i64 0,.int .i64 (cfgSz (md cs 4)),.int .i64 (1+(md cq 5:Int)),.int .i64 (1+(md cc 4:Int)),.int .i64 (1+(md cba 4:Int)),.int .i64 0,.int .i64 0,.int .i64 0,.int .i64 0] 109::_) w:=hS
  repeat first|refine Gp ?_|refine Gw λw hS=>?_|refine Gb λb w hS=>?_
  rw[show (1:Int)+(md ct 4:Int)=((1+md ct 4:Nat):Int) by omega]at hS ⊢
  refine s_cvU (by omega) ?_
  have hp:2 ^ (1+md ct 4)≤16:=Nat.pow_le_pow_right (by decide) (show 1+md ct 4≤4 by omega)
  have hp0:0<2 ^ (1+md ct 4):=Nat.pow_pos (by decide)
  have hpe:(1:Int)*2 ^ (1+md ct 4)=((2 ^ (1+md ct 4):Nat):Int):=by simp
  refine s_shlK (by omega) (by rw[hpe];omega) ?_
  rw[hpe]
  have hml:=md_lt cl (2 ^ (1+md ct 4)) hp0
  have e:cfgOf ⟨ct,cl,cs,cq,cc,cba,cb0,cm,cj,ce⟩=⟨((1+md ct 4:Nat):Int),(md cl (2 ^ (1+md ct 4)):Int),cfgSz (md cs 4),1+(md cq 5:Int),1+(md cc 4:Int),1+(md cba 4:Int),1+(md cb0 4:Int),1+(md cb0 4:Int)+(md cm 12:Int),(md cj 4:Int),1+(md ce 8:Int)⟩:=by
   unfold cfgOf
   simp only
   rw[show (1:Int)+(md ct 4:Int)=((1+md ct 4:Nat):Int) by omega]
  rw[e]
  generalize hP:2 ^ (1+md ct 4)=P at *
  (apply zd (yg cl P hp0 (by omega)) hS;exact Xp;clear hS)
  (rintro v post ⟨rfl,rfl⟩ w hS;(try simp only[app]at hS);(repeat (first|refine Gp ?_|refine Gw λw hS=>?_|refine Gb λb w hS=>?_)))
  (apply zd (zV cb0 4 (by decide) (by decide)) hS;exact Xp;clear hS)
  (rintro v post ⟨rfl,rfl⟩ w hS;(try simp only[app]at hS);(repeat (first|refine Gp ?_|refine Gw λw hS=>?_|refine Gb λb w hS=>?_)))
  (apply zd (zV cm 12 (by decide) (by decide)) hS;exact Xp;clear hS)
  (rintro v post ⟨rfl,rfl⟩ w hS;(try simp only[app]at hS);(repeat (first|refine Gp ?_|refine Gw λw hS=>?_|refine Gb λb w hS=>?_)))
  (apply zd (zV cj 4 (by decide) (by decide)) hS;exact Xp;clear hS)
  (rintro v post ⟨rfl,rfl⟩ w hS;(try simp only[app]at hS);(repeat (first|refine Gp ?_|refine Gw λw hS=>?_|refine Gb λb w hS=>?_)))
  (apply zd (zV ce 8 (by decide) (by decide)) hS;exact Xp;clear hS)
  (rintro v post ⟨rfl,rfl⟩ w hS;(try simp only[app]at hS);(repeat (first|refine Gp ?_|refine Gw λw hS=>?_|refine Gb λb w hS=>?_)))
  (exact⟨_,⟨rfl,rfl⟩,SL.into hS Xi⟩)
structure DPs where
 xb:Nat
 w:WPs
 r:RPs
abbrev dkcells(p:DPs)(lsn:Int):List Value:=[ptrO p.w.dp,ptrO p.w.kp,ptrO p.w.qp,ptrO p.w.rp,ptrO p.w.wp,ptrO p.r.xp,ptrO p.r.yp,.int .i64 lsn]
abbrev DeskP(p:DPs)(lsn:Int):Chunk:=.pt p.xb (dkcells p lsn) 117
theorem own_sl{W w:World}{l:List Chunk}{v:Value}{t:TypeId}{sz n:Nat}{cells:List Value}(h:SL W l w)(m:Has (.ob (OwnSl v t sz n cells)) l):∃a n c,v= .slice a n c:=by
 obtain⟨a,cap,e,_⟩:=OwnSl.at h m
 exact⟨a,n,cap,e⟩
def PWt.put(s:PWt)(cap:Nat)(t:PItem):PWt:=if s.L.length+s.out<cap then {s with L:=s.L++[t]} else s
theorem map_len(L:List PItem):(L.map strI).length=L.length:=List.length_map ..
theorem map_snoc(L:List PItem)(x:PItem):L.map strI++[strI x]=(L++[x]).map strI:=by simp
theorem RDO.putP{W w:World}{l F:List Chunk}{H:Heap}{xp:Nat}{s:DS}{fv:Value}{ys:List YF}(hS:SL W l w)(hA:ys.map Prod.fst=s.R∧RdB H ys)(k:Pick [.pt xp (rcells fv s) 29,.ob (FilesO fv ys)] l F):SL W (.ob (RDO H xp s)::F) w:=RDO.iff.2 ⟨fv,ys,hA,hS.pick k⟩
theorem y6(p:DPs)(c:WCf)(H:Heap)(s:PWt)(lsn:Int)(x:ItV)(t:PItem)(hx:ItIs H x t)(hm:mayItem t=true){tabs f:Nat}(hI:WtInv c tabs s f):
  SP 52 [ptrO p.xb,agg (encIt x)] [DeskP p lsn,.ob (WrO p.w c H s),.ob (RWrO p.r c H s),.mem H] (λv post=>v= .bool true∧∃H',H.le H'∧post=[DeskP p (if s.L.length+s.out<c.cap then t.lsn else lsn),.ob (WrO p.w c H' (s.put c.cap t)),.ob (RWrO p.r c H' (s.put c.cap t)),.mem H']):=by
 intro W F w hS;apply vc52;unfold Vc52;(try simp only[app]at hS)
 have hcap:=hI.cap
 have hroom:=hI.room
 refine zB hS λib w hS=>?_
 refine zA hS Xh rfl ?_
 (apply zd (Zm H x t hx) hS;exact Xp;clear hS)
 rintro r post hqe w hS
 unfold EncIQ at hqe
 rw[bytesItem_ok hm]at hqe
 obtain⟨bv,rfl,rfl⟩:=hqe
 (try simp only[app]at hS)
 have ex:encIt x=[.int .i64 t.lsn,x.ov,x.nv]:=by unfold encIt;rw[hx.lsn]
 rw[ex]at hS
 repeat first|refine Gp ?_|refine Gw λw hS=>?_|refine Gb λb w hS=>?_
 refine ze (λh=>absurd rfl h) (λ_=>?_)
 obtain⟨ov,nv,hi,hS⟩:=WrO.open hS Xr
 obtain⟨rov,rnv,gv,⟨hri,hrg⟩,hS⟩:=RWrO.open hS Xr
 have hcv:∀{w:World} {l:List Chunk} {K:Value→Prop},SL W l w→Has (.ob (OwnSl bv 5 1 (bytesItem t).length ((bytesItem t).map u8c))) l→K (.string (strI t))→HRq Tryz.prog (convert 54 9 bv) w K:=λhS m h=>
  y4 (own_sl hS m) (src_own hS m) Tryz.underlying54 Tryz.underlying9 Tryz.underlying5 h
 repeat first|refine Gp ?_|refine Gw λw hS=>?_|refine Gb λb w hS=>?_
 refine hcv hS Xh ?_
 repeat first|refine Gp ?_|refine Gw λw hS=>?_|refine Gb λb w hS=>?_
 refine hcv hS Xh ?_
 by_cases hr:s.L.length+s.out<c.cap
 ·have hput:s.put c.cap t={s with L:=s.L++[t]}:=by unfold PWt.put;rw[if_pos hr]
  rw[hput,if_pos hr]
  (apply zd (gpush_yes p.w.qp p.w.qb c.cap s.out (s.L.map strI) (strI t) (by rw[map_len];exact hr)) hS;exact Xp;clear hS)
  (rintro v post ⟨rfl,rfl⟩ w hS;(try simp only[app]at hS);(repeat (first|refine Gp ?_|refine Gw λw hS=>?_|refine Gb λb w hS=>?_)))
  refine hcv hS Xh ?_
  repeat first|refine Gp ?_|refine Gw λw hS=>?_|refine Gb λb w hS=>?_
  rw[show c.cap-s.L.length-s.out=(c.cap-s.L.length-s.out-1)+1 by omega]at hS
  (apply zd (rpush_yes H p.r.qp c.cap (c.cap-s.L.length-s.out-1) s.out gv (s.L.map strI) (strI t) hrg (by rw[map_len];omega) (by omega)) hS;exact Xp;clear hS)
  rintro _ post ⟨H1,gv2,rfl,h01,hg2,rfl⟩ w hS
  (try simp only[app]at hS)
  repeat first|refine Gp ?_|refine Gw λw hS=>?_|refine Gb λb w hS=>?_
  rw[decide_eq_true rfl]
  rw[map_snoc]at hS hg2
  have hS:=SnkO.monoP h01 hS Xr
  have hS:=RSnkO.monoP h01 hS Xr
  have hS:=WrO.putN (p:=p.w) (c:=c) (held:=s.held) hS (hi.mono h01) Xp
  have hS:=RWrO.putN (p:=p.r) (c:=c) (held:=s.held) hS (hri.mono h01) hg2 Xp (by rw[List.length_append,List.length_singleton];omega)
  exact⟨_,⟨rfl,H1,h01,rfl⟩,SL.into hS Xi⟩
 ·have hput:s.put c.cap t=s:=by unfold PWt.put;rw[if_neg hr]
  rw[hput,if_neg hr]
  (apply zd (gpush_no p.w.qp p.w.qb c.cap s.out (s.L.map strI) (strI t) (by rw[map_len];omega)) hS;exact Xp;clear hS)
  (rintro v post ⟨rfl,rfl⟩ w hS;(try simp only[app]at hS);(repeat (first|refine Gp ?_|refine Gw λw hS=>?_|refine Gb λb w hS=>?_)))
  refine hcv hS Xh ?_
  repeat first|refine Gp ?_|refine Gw λw hS=>?_|refine Gb λb w hS=>?_
  rw[show c.cap-s.L.length-s.out=0 by omega]at hS
  (apply zd (rpush_no p.r.qp c.cap s.out gv (strI t)) hS;exact Xp;clear hS)
  (rintro v post ⟨rfl,rfl⟩ w hS;(try simp only[app]at hS);(repeat (first|refine Gp ?_|refine Gw λw hS=>?_|refine Gb λb w hS=>?_)))
  rw[decide_eq_true rfl]
  have hS:=WrO.put (p:=p.w) (c:=c) s hS hi Xp
  have hS:=RWrO.putN (p:=p.r) (c:=c) (k:=s.k) (held:=s.held) hS hri hrg Xp (by omega)
  have hS:SL W (.ob (RWrO p.r c H s)::_) _:=hS
  exact⟨_,⟨rfl,H,Heap.le_refl H,rfl⟩,SL.into hS Xi⟩
theorem WtInv.hlen{c:WCf}{tabs f:Nat}{s:PWt}(h:WtInv c tabs s f):s.held.ops.length≤4096∧s.held.notes.length≤256:=by
 rcases h.held with ⟨_,h1⟩|⟨h1,_⟩
 ·rw[h1];exact⟨by decide,by decide⟩
 ·have:=(mayItem_iff.1 (h.iok h1).1).1
  exact⟨this.2.2.1,this.2.2.2⟩
theorem Yw(p:DPs)(c:WCf)(H:Heap)(s:PWt)(lsn now:Int){tabs f N m:Nat}(hI:WtInv c tabs s f)(hk:KOk s.k N m):
  SP 66 [ptrO p.xb,.int .i64 now] [DeskP p lsn,.ob (WrO p.w c H s),.ob (RWrO p.r c H s),.mem H] (λv post=>v= .bool true∧∃H',H.le H'∧post=[DeskP p lsn,.ob (WrO p.w c H' s),.ob (RWrO p.r c H' s),.mem H']):=by
 intro W F w hS;apply vc66;unfold Vc66;(try simp only[app]at hS)
 obtain⟨hl1,hl2⟩:=hI.hlen
 have hle:=hk.le
 repeat first|refine Gp ?_|refine Gw λw hS=>?_|refine Gb λb w hS=>?_
 obtain⟨rov,rnv,gv,⟨hri,hrg⟩,hS⟩:=RWrO.open hS Xr
 refine yS (vs:=[.int .i64 s.held.lsn,rov,rnv]) hS Xh rfl it_cells ?_
 (apply zd (Z0 p.w c H s (by omega) (by omega)) hS;exact Xp;clear hS)
 rintro _ post ⟨hv,H1,h01,rfl,hx,rfl⟩ w hS
 (try simp only[app]at hS)
 have hri:=hri.mono h01
 have hrg:=hrg.mono h01
 have hS:=RSnkO.monoP h01 hS Xr
 refine yS (vs:=[.int .i64 s.held.lsn,rov,rnv]) hS Xh rfl it_cells ?_
 refine Q0 ?_
 (apply zd (item_same H1 hv ⟨s.held.lsn,rov,rnv⟩ s.held hx hri (by omega) (by omega)) hS;exact Xp;clear hS)
 (rintro v post ⟨rfl,rfl⟩ w hS;(try simp only[app]at hS);(repeat (first|refine Gp ?_|refine Gw λw hS=>?_|refine Gb λb w hS=>?_)))
 (apply zd (yT p.w c H1 s now) hS;exact Xp;clear hS)
 (rintro v post ⟨rfl,rfl⟩ w hS;(try simp only[app]at hS);(repeat (first|refine Gp ?_|refine Gw λw hS=>?_|refine Gb λb w hS=>?_)))
 have hS:=RWrO.put (p:=p.r) (c:=c) s hS hri hrg Xp
 (apply zd (Zb p.r c H1 s now) hS;exact Xp;clear hS)
 (rintro v post ⟨rfl,rfl⟩ w hS;(try simp only[app]at hS);(repeat (first|refine Gp ?_|refine Gw λw hS=>?_|refine Gb λb w hS=>?_)))
 rw[decide_eq_true rfl]
 refine zy ?_
 obtain⟨ov,nv,hi,hS⟩:=WrO.open hS Xr
 obtain⟨rov,rnv,gv,⟨hri,hrg⟩,hS⟩:=RWrO.open hS Xr
 repeat first|refine Gp ?_|refine Gw λw hS=>?_|refine Gb λb w hS=>?_
 (apply zd (yq p.w.qp p.w.qb c.cap s.out (s.L.map strI)) hS;exact Xp;clear hS)
 (rintro v post ⟨rfl,rfl⟩ w hS;(try simp only[app]at hS);(repeat (first|refine Gp ?_|refine Gw λw hS=>?_|refine Gb λb w hS=>?_)))
 rw[map_len]
 refine ze (λ_=>?_) (λh=>absurd rfl h)
 repeat first|refine Gp ?_|refine Gw λw hS=>?_|refine Gb λb w hS=>?_
 (apply zd (QJ p.w.qp p.w.qb c.cap s.out (s.L.map strI)) hS;exact Xp;clear hS)
 (rintro v post ⟨rfl,rfl⟩ w hS;(try simp only[app]at hS);(repeat (first|refine Gp ?_|refine Gw λw hS=>?_|refine Gb λb w hS=>?_)))
 refine ze (λ_=>?_) (λh=>absurd rfl h)
 obtain⟨hgt,hS⟩:=gate_ring hS Xr
 repeat first|refine Gp ?_|refine Gw λw hS=>?_|refine Gb λb w hS=>?_
 refine zq hrg ?_
 (apply zd (ZX p.w.qb c.cap (s.L.map strI)) hS;exact Xp;clear hS)
 (rintro v post ⟨rfl,rfl⟩ w hS;(try simp only[app]at hS);(repeat (first|refine Gp ?_|refine Gw λw hS=>?_|refine Gb λb w hS=>?_)))
 refine ze (λ_=>?_) (λh=>absurd rfl h)
 have hS:=Gate.putP hS hgt Xp
 repeat first|refine Gp ?_|refine Gw λw hS=>?_|refine Gb λb w hS=>?_
 (apply zd (Y7 p.w.rp c.b c.m c.j s.fails s.til) hS;exact Xp;clear hS)
 (rintro v post ⟨rfl,rfl⟩ w hS;(try simp only[app]at hS);(repeat (first|refine Gp ?_|refine Gw λw hS=>?_|refine Gb λb w hS=>?_)))
 refine ze (λ_=>?_) (λh=>absurd rfl h)
 repeat first|refine Gp ?_|refine Gw λw hS=>?_|refine Gb λb w hS=>?_
 (apply zd (YC p.w.rp c.b c.m c.j s.fails s.til) hS;exact Xp;clear hS)
 (rintro v post ⟨rfl,rfl⟩ w hS;(try simp only[app]at hS);(repeat (first|refine Gp ?_|refine Gw λw hS=>?_|refine Gb λb w hS=>?_)))
 refine ze (λ_=>?_) (λh=>absurd rfl h)
 obtain⟨rv,pv,⟨hr,hp⟩,hS⟩:=RSnkO.open (k:=s.k) hS Xr
 repeat first|refine Gp ?_|refine Gw λw hS=>?_|refine Gb λb w hS=>?_
 (apply zd (Z6 p.w.kp p.w.gp p.w.dp p.w.lp p.w.pp H1 s.k) hS;exact Xp;clear hS)
 (rintro v post ⟨rfl,rfl⟩ w hS;(try simp only[app]at hS);(repeat (first|refine Gp ?_|refine Gw λw hS=>?_|refine Gb λb w hS=>?_)))
 refine ze (λ_=>?_) (λh=>absurd rfl h)
 have hS:=RSnkO.put s.k hS hr hp Xp
 repeat first|refine Gp ?_|refine Gw λw hS=>?_|refine Gb λb w hS=>?_
 (apply zd (yC p.w.kp p.w.gp p.w.dp p.w.lp p.w.pp H1 s.k hk.g (by omega)) hS;exact Xp;clear hS)
 (rintro v post ⟨rfl,rfl⟩ w hS;(try simp only[app]at hS);(repeat (first|refine Gp ?_|refine Gw λw hS=>?_|refine Gb λb w hS=>?_)))
 (apply zd (ZU p.r.kp p.r.xp p.r.lp p.r.rp H1 s.k hk.g (by omega)) hS;exact Xp;clear hS)
 (rintro v post ⟨rfl,rfl⟩ w hS;(try simp only[app]at hS);(repeat (first|refine Gp ?_|refine Gw λw hS=>?_|refine Gb λb w hS=>?_)))
 refine ze (λ_=>?_) (λh=>absurd rfl h)
 obtain⟨rv,pv,⟨hr,hp⟩,hS⟩:=RSnkO.open (k:=s.k) hS Xr
 obtain⟨fv,ys,hfy,hS⟩:=RDO.iff.1 (Has.front (c:=.ob (RDO H1 p.r.xp s.k.d)) hS Xr)
 obtain⟨qv,hq,hS⟩:=SnkO.open (k:=s.k) hS Xr
 repeat first|refine Gp ?_|refine Gw λw hS=>?_|refine Gb λb w hS=>?_
 (apply zd (Qr p.w.dp s.k.d) hS;exact Xp;clear hS)
 (rintro v post ⟨rfl,rfl⟩ w hS;(try simp only[app]at hS);(repeat (first|refine Gp ?_|refine Gw λw hS=>?_|refine Gb λb w hS=>?_)))
 refine ze (λ_=>?_) (λh=>absurd rfl h)
 repeat first|refine Gp ?_|refine Gw λw hS=>?_|refine Gb λb w hS=>?_
 (apply zd (yL p.w.dp s.k.d) hS;exact Xp;clear hS)
 (rintro v post ⟨rfl,rfl⟩ w hS;(try simp only[app]at hS);(repeat (first|refine Gp ?_|refine Gw λw hS=>?_|refine Gb λb w hS=>?_)))
 rw[decide_eq_true rfl]
 refine zy ?_
 have hS:=RDO.putP (H:=H1) (xp:=p.r.xp) (s:=s.k.d) hS hfy Xp
 have hS:=SnkO.put s.k hS hq Xp
 repeat first|refine Gp ?_|refine Gw λw hS=>?_|refine Gb λb w hS=>?_
 refine zq hp ?_
 (apply zd (yx p.w.kp p.w.gp p.w.dp p.w.lp p.w.pp H1 s.k) hS;exact Xp;clear hS)
 (rintro v post ⟨rfl,rfl⟩ w hS;(try simp only[app]at hS);(repeat (first|refine Gp ?_|refine Gw λw hS=>?_|refine Gb λb w hS=>?_)))
 obtain⟨qv,hq,hS⟩:=SnkO.open (k:=s.k) hS Xr
 (apply zd (QC p.w.pp s.k.plan) hS;exact Xp;clear hS)
 (rintro v post ⟨rfl,rfl⟩ w hS;(try simp only[app]at hS);(repeat (first|refine Gp ?_|refine Gw λw hS=>?_|refine Gb λb w hS=>?_)))
 rw[decide_eq_true rfl]
 have hS:=SnkO.put s.k hS hq Xp
 have hS:=RSnkO.put s.k hS hr hp Xp
 have hS:=WrO.put (p:=p.w) (c:=c) s hS hi Xp
 have hS:=RWrO.put (p:=p.r) (c:=c) s hS hri hrg Xp
 exact⟨_,⟨rfl,H1,h01,rfl⟩,SL.into hS Xi⟩
structure CfgOk(c:PCfg)(k:WCf)(n:Nat):Prop where
 n1:1≤n
 n8:n≤8
 tables:c.tables=n
 s0:64≤c.size
 s1:c.size≤65536
 queue:c.queue=k.cap
 q1:1≤k.cap
 q64:k.cap≤64
 batch:c.batch=k.most
 b1:1≤k.most
 b64:k.most≤64
 base:c.base=k.b
 cm:c.most=k.m
 jit:c.jitter=k.j
 may:MayB k.b k.m k.j
def s0W(k:PSink):PWt:=⟨k,[],0,0,0,it0,0⟩
theorem desk_new{W w:World}{l F:List Chunk}{H H2:Heap}{k:WCf}{k0:PSink}{wp kp gp dp lp pp qp qb rp yp rkp xp rlp rrp rqp rr xb:Nat}(hS:SL W l w)
  (q:Into (.pt xb [ptrO dp,ptrO kp,ptrO qp,ptrO rp,ptrO wp,ptrO xp,ptrO yp,.int .i64 0] 117::.pt wp (wtcells kp qp rp k.most 0 (.slice none 0 0) (.slice none 0 0) 0) 236::.ob (SnkO kp gp dp lp pp H2 k0)::.ob (Gate qp qb k.cap 0 [])::RtP rp k.b k.m k.j 0 0 ::
   .pt yp [ptrO rkp,ptrO rqp,ptrO rr,.int .i64 (k.most:Int),.int .i64 0,.slice none 0 0,.slice none 0 0,.int .i64 0] 140::.ob (RSnkO rkp xp rlp rrp H2 k0)::RG rqp k.cap k.cap 0 (.slice none 0 0)::.pt rr [.int .i64 k.b,.int .i64 k.m,.int .i64 k.j,.int .i64 0,.int .i64 0] 232::.mem H2::F) l) (hh:H.le H2) :
  ∃post,(∃(p:DPs) (H':Heap),H.le H'∧ptrO xb=ptrO p.xb∧post=[DeskP p 0,.ob (WrO p.w k H' (s0W k0)),.ob (RWrO p.r k H' (s0W k0)),.mem H'])∧SL W (app post F) w:=by
 have hS:=hS.into q
 have hS:SL W (.pt xb [ptrO dp,ptrO kp,ptrO qp,ptrO rp,ptrO wp,ptrO xp,ptrO yp,.int .i64 0] 117::.pt wp (wtcells kp qp rp k.most it0.lsn (.slice none 0 0) (.slice none 0 0) 0) 236::.ob (SnkO kp gp dp lp pp H2 k0)::.ob (Gate qp qb k.cap 0 (([]:List PItem).map strI))::RtP rp k.b k.m k.j 0 0 ::
   .pt yp (wtcells rkp rqp rr k.most it0.lsn (.slice none 0 0) (.slice none 0 0) 0) 140::.ob (RSnkO rkp xp rlp rrp H2 k0)::RG rqp k.cap k.cap 0 (.slice none 0 0)::RRtP rr k.b k.m k.j 0 0::.mem H2::F) w:=hS
 have hS:=WrO.putN (p:=⟨wp,kp,gp,dp,lp,pp,qp,qb,rp⟩) (c:=k) (H:=H2) (k:=k0) (L:=[]) (out:=0) (held:=it0) (n:=0) (ov:=.slice none 0 0) (nv:=.slice none 0 0) hS ⟨rfl,RdSl.nil _ _,RdSl.nil _ _⟩ Xp
 have hS:=RWrO.putN (p:=⟨yp,rkp,xp,rlp,rrp,rqp,rr⟩) (c:=k) (H:=H2) (k:=k0) (L:=[]) (cr:=k.cap) (out:=0) (held:=it0) (n:=0) (ov:=.slice none 0 0) (nv:=.slice none 0 0) (gv:=.slice none 0 0) hS ⟨rfl,RdSl.nil _ _,RdSl.nil _ _⟩ (RdSl.nil _ _) Xp rfl
 have hS:SL W (.ob (RWrO ⟨yp,rkp,xp,rlp,rrp,rqp,rr⟩ k H2 (s0W k0))::.ob (WrO ⟨wp,kp,gp,dp,lp,pp,qp,qb,rp⟩ k H2 (s0W k0))::DeskP ⟨xb,⟨wp,kp,gp,dp,lp,pp,qp,qb,rp⟩,⟨yp,rkp,xp,rlp,rrp,rqp,rr⟩⟩ 0::.mem H2::F) w:=hS
 exact⟨_,⟨⟨xb,⟨wp,kp,gp,dp,lp,pp,qp,qb,rp⟩,⟨yp,rkp,xp,rlp,rrp,rqp,rr⟩⟩,H2,hh,rfl,rfl⟩,SL.into hS Xi⟩
theorem Zc(H:Heap)(c:PCfg)(k:WCf)(n:Nat)(hc:CfgOk c k n)(k0:PSink)(ho:openK s00 ((n:Nat):Int) c.size=(k0.d,.ok k0))(he:∀d' g,openG s00 8192 c.size=(d',.ok g)→(entsG g.segs).length≤200):
  SP 49 [agg (encCfg c)] [.mem H] (λv post=>∃(p:DPs) (H':Heap),H.le H'∧v=ptrO p.xb∧post=[DeskP p 0,.ob (WrO p.w k H' (s0W k0)),.ob (RWrO p.r k H' (s0W k0)),.mem H']):=by
 obtain⟨ct,cl,cs,cq,cc,cba,cb0,cm,cj,ce⟩:=c
 obtain⟨c1,c2,c3,c4,c5,c6,c7,c8,c9,c10,c11,c12,c13,c14,c15⟩:=hc
 simp only at c3 c4 c5 c6 c9 c12 c13 c14 he ho
 subst c3 c6 c9 c12 c13 c14
 intro W F w hS;apply vc49;unfold Vc49;(try simp only[app]at hS)
 refine zB hS λcb w hS=>?_
 unfold encCfg at hS
 (apply zd (QM) hS;exact Xp;clear hS)
 rintro _ post ⟨dp,rfl,rfl⟩ w hS
 (try simp only[app]at hS)
 repeat first|refine Gp ?_|refine Gw λw hS=>?_|refine Gb λb w hS=>?_
 refine zB hS λxp w hS=>?_
 have hS:=RDO.new (H:=H) hS
 repeat first|refine Gp ?_|refine Gw λw hS=>?_|refine Gb λb w hS=>?_
 refine zB hS λxb w hS=>?_
 have hS:SL W (.pt xb [ptrO dp,.pointer none,.pointer none,.pointer none,.pointer none,ptrO xp,.pointer none,.int .i64 0] 117::_) w:=hS
 repeat first|refine Gp ?_|refine Gw λw hS=>?_|refine Gb λb w hS=>?_
 refine zr ?_
 repeat first|refine Gp ?_|refine Gw λw hS=>?_|refine Gb λb w hS=>?_
 (apply zd (qE H dp s00 n cs (s00_ok 0) (by decide) (by decide) he) hS;exact Xp;clear hS)
 rw[ho]
 rintro r post ⟨kp,gp,lp,pp,H1,h01,rfl,rfl⟩ w hS
 (try simp only[app]at hS)
 repeat first|refine Gp ?_|refine Gw λw hS=>?_|refine Gb λb w hS=>?_
 (apply zd (gnew_ok k.cap c7 c8) hS;exact Xp;clear hS)
 rintro _ post ⟨qp,qb,rfl,rfl⟩ w hS
 (try simp only[app]at hS)
 repeat first|refine Gp ?_|refine Gw λw hS=>?_|refine Gb λb w hS=>?_
 (apply zd (Qy k.b k.m k.j) hS;exact Xp;clear hS)
 rintro r post hq w hS
 rw[if_pos c15]at hq
 obtain⟨rp,rfl,rfl⟩:=hq
 (try simp only[app]at hS)
 repeat first|refine Gp ?_|refine Gw λw hS=>?_|refine Gb λb w hS=>?_
 refine zr ?_
 repeat first|refine Gp ?_|refine Gw λw hS=>?_|refine Gb λb w hS=>?_
 refine zr ?_
 repeat first|refine Gp ?_|refine Gw λw hS=>?_|refine Gb λb w hS=>?_
 refine zr ?_
 repeat first|refine Gp ?_|refine Gw λw hS=>?_|refine Gb λb w hS=>?_
 (apply zd (yx kp gp dp lp pp H1 k0) hS;exact Xp;clear hS)
 (rintro v post ⟨rfl,rfl⟩ w hS;(try simp only[app]at hS);(repeat (first|refine Gp ?_|refine Gw λw hS=>?_|refine Gb λb w hS=>?_)))
 refine zr ?_
 repeat first|refine Gp ?_|refine Gw λw hS=>?_|refine Gb λb w hS=>?_
 (apply zd (wnew_ok kp qp rp k.most c10 c11) hS;exact Xp;clear hS)
 rintro _ post ⟨wp,rfl,rfl⟩ w hS
 (try simp only[app]at hS)
 repeat first|refine Gp ?_|refine Gw λw hS=>?_|refine Gb λb w hS=>?_
 refine zr ?_
 have hS:=RDO.monoP h01 hS Xr
 repeat first|refine Gp ?_|refine Gw λw hS=>?_|refine Gb λb w hS=>?_
 (apply zd (YI H1 xp s00 n cs (s00_ok 0) (by decide) (by decide) he) hS;exact Xp;clear hS)
 rw[ho]
 rintro r post ⟨rkp,rlp,rrp,H2,h12,rfl,rfl⟩ w hS
 (try simp only[app]at hS)
 repeat first|refine Gp ?_|refine Gw λw hS=>?_|refine Gb λb w hS=>?_
 have hS:=SnkO.monoP h12 hS Xr
 refine⟨?_,?_⟩
 ·(apply zd (rgnew_ok k.cap c7 c8) hS;exact Xp;clear hS)
  rintro _ post ⟨rqp,rfl,rfl⟩ w hS
  (try simp only[app]at hS)
  repeat first|refine Gp ?_|refine Gw λw hS=>?_|refine Gb λb w hS=>?_
  refine zB hS λrr w hS=>?_
  repeat first|refine Gp ?_|refine Gw λw hS=>?_|refine Gb λb w hS=>?_
  refine zB hS λyp w hS=>?_
  repeat first|refine Gp ?_|refine Gw λw hS=>?_|refine Gb λb w hS=>?_
  exact desk_new hS Xi (Heap.le_trans h01 h12)
 ·refine zB hS λrr w hS=>?_
  repeat first|refine Gp ?_|refine Gw λw hS=>?_|refine Gb λb w hS=>?_
  (apply zd (rgnew_ok k.cap c7 c8) hS;exact Xp;clear hS)
  rintro _ post ⟨rqp,rfl,rfl⟩ w hS
  (try simp only[app]at hS)
  repeat first|refine Gp ?_|refine Gw λw hS=>?_|refine Gb λb w hS=>?_
  refine zB hS λyp w hS=>?_
  repeat first|refine Gp ?_|refine Gw λw hS=>?_|refine Gb λb w hS=>?_
  exact desk_new hS Xi (Heap.le_trans h01 h12)
theorem AInv.first{c:WCf}{n:Nat}{k:PSink}(h:PInv n k 0 [] none)(hd:k.d=s00)(h1:1≤c.cap)(h2:c.cap≤64)(h3:1≤c.most)(h4:c.most≤64):AInv c n (s0W k) [] [] 0 0 0:=
 ⟨⟨h1,h2,h3,h4,λx hx=>(by cases hx),trivial,Nat.zero_le _,rfl,.inl ⟨rfl,rfl⟩,Int.le_refl _,Int.le_refl _⟩,λx hx=>(by cases hx),trivial,rfl,rfl,⟨by show k.d.off=false;rw[hd];rfl,by show k.d.arm=0;rw[hd];rfl⟩,⟨[],none,h,rfl⟩,.inl h.tr0⟩
theorem AInv.push{c:WCf}{n:Nat}{s:PWt}{done hd:List PItem}{j f bt:Nat}(h:AInv c n s done hd j f bt){x:PFt}(hx:mayFt x=true)(hk:x.keep≤9223372036854775807):AInv c n {s with k:={s.k with plan:=s.k.plan++[x]}} done hd (j+1) f bt:=by
 obtain⟨xs,m,hP,hb⟩:=h.p
 exact⟨⟨h.w.cap1,h.w.cap,h.w.most1,h.w.most,h.w.it,h.w.rise,h.w.room,h.w.out,h.w.held,h.w.f0,h.w.f1⟩,h.it,h.rise,h.hn,h.held,⟨h.up.off,h.up.arm⟩,⟨xs,m,hP.push hx hk,hb⟩,h.tr⟩
theorem AInv.kok{c:WCf}{n:Nat}{s:PWt}{done hd:List PItem}{j f bt:Nat}(h:AInv c n s done hd j f bt)(hj:j≤100)(n8:n≤8):KOk s.k (1000000*(j+1)) 100:=by
 obtain⟨xs,m,hP,_⟩:=h.p
 exact hP.kok hj n8
theorem y0(p:WPs)(H:Heap)(k:PSink)(f:PFt)(v:Value)(hv:RdFt H v [f])(hf:mayFt f=true)(hl:k.plan.length+1≤1024):
  SP 40 [ptrO p.pp,v] [.ob (SnkO p.kp p.gp p.dp p.lp p.pp H k),.mem H] (Gives (.int .i64 1) [.ob (SnkO p.kp p.gp p.dp p.lp p.pp H {k with plan:=k.plan++[f]}),.mem H]):=by
 intro W F w hS
 have hS:SL W (.ob (SnkO p.kp p.gp p.dp p.lp p.pp H k)::.mem H::F) w:=hS
 obtain⟨rv,hr,hS⟩:=SnkO.open (k:=k) hS Xr
 have hpu:=pushed (p:=k.plan) hf (by omega)
 have hone:(((pushFt k.plan [f]).length-k.plan.length:Nat):Int)=1:=by rw[hpu,List.length_append,List.length_singleton];omega
 (apply zd (qj H p.pp k.plan [f] v hv (by simp) (by omega)) hS;exact Xp;clear hS)
 rintro _ post ⟨rfl,rfl⟩ w hS
 (try simp only[app]at hS)
 rw[hone]
 rw[hpu]at hS
 have hS:=SnkO.putN (H:=H) (reqs:=k.reqs) hS hr Xp
 exact⟨_,⟨rfl,rfl⟩,SL.into hS Xi⟩
def it29(n:Int):PItem:=⟨n,[],[]⟩
theorem it29_may{n:Int}(h1:1≤n)(h2:n≤1099511627776):mayItem (it29 n)=true:=mayItem_iff.2 ⟨⟨h1,h2,Nat.zero_le _,Nat.zero_le _⟩,by simp[it29],by simp[it29]⟩
theorem it29_wit{n:Int}(h1:1≤n)(h2:n≤1099511627776)(k:Nat):WIt k (it29 n):=⟨it29_may h1 h2,rfl,Nat.zero_le _,rfl⟩
theorem it29_is(H:Heap)(n:Int):ItIs H ⟨n,.slice none 0 0,.slice none 0 0⟩ (it29 n):=⟨rfl,RdSl.nil _ _,RdSl.nil _ _⟩
def awc:WCf:=⟨2,2,1,4,0⟩
theorem Yz:SP 51 [] [] (Gives (.bool true) []):=by
 intro W F w hS;apply vc51;unfold Vc51;(try simp only[app]at hS)
 have hS:=SL.memNil hS
 generalize Heap.emp=H at hS
 obtain⟨k0,ho,hI0,hp0,hd0,hl0,he0⟩:=PInv.first (n:=1) (by decide) (by decide) (size:=64) (by decide) (by decide)
 refine ZW rfl ?_
 (apply zd (Zc H ⟨1,0,64,2,0,2,1,4,0,0⟩ awc 1 ⟨by decide,by decide,rfl,by decide,by decide,rfl,by decide,by decide,rfl,by decide,by decide,rfl,rfl,rfl,by decide⟩ k0 ho he0) hS;exact Xp;clear hS)
 rintro _ post ⟨p,H1,h01,rfl,rfl⟩ w hS
 (try simp only[app]at hS)
 repeat first|refine Gp ?_|refine Gw λw hS=>?_|refine Gb λb w hS=>?_
 refine zr ?_
 have hA:=AInv.first (c:=awc) hI0 hd0 (by decide) (by decide) (by decide) (by decide)
 repeat first|refine Gp ?_|refine Gw λw hS=>?_|refine Gb λb w hS=>?_
 (apply zd (y6 p awc H1 (s0W k0) 0 _ (it29 1) (it29_is H1 1) (it29_may (by decide) (by decide)) hA.w) hS;exact Xp;clear hS)
 rintro _ post ⟨rfl,H2,h12,rfl⟩ w hS
 (try simp only[app]at hS)
 repeat first|refine Gp ?_|refine Gw λw hS=>?_|refine Gb λb w hS=>?_
 refine zr ?_
 have hA1:=hA.put (it29_wit (n:=1) (by decide) (by decide) 1) (by show (0:Int)<1;decide) (by show 0+0<2;decide)
 have e1:(s0W k0).put awc.cap (it29 1)={s0W k0 with L:=(s0W k0).L++[it29 1]}:=by unfold PWt.put;rw[if_pos (by show 0+0<2;decide)]
 rw[e1]at hS
 generalize hs1:({s0W k0 with L:=(s0W k0).L++[it29 1]}:PWt)=s1 at *
 have l1:s1.L=[it29 1]:=by rw[← hs1];rfl
 have o1:s1.out=0∧s1.n=0∧s1.k=k0∧s1.fails=0:=by rw[← hs1];exact⟨rfl,rfl,rfl,rfl⟩
 obtain⟨o1,n1,k1,f1⟩:=o1
 repeat first|refine Gp ?_|refine Gw λw hS=>?_|refine Gb λb w hS=>?_
 (apply zd (y6 p awc H2 s1 _ _ (it29 4) (it29_is H2 4) (it29_may (by decide) (by decide)) hA1.w) hS;exact Xp;clear hS)
 rintro _ post ⟨rfl,H3,h23,rfl⟩ w hS
 (try simp only[app]at hS)
 repeat first|refine Gp ?_|refine Gw λw hS=>?_|refine Gb λb w hS=>?_
 refine zr ?_
 have hA2:=hA1.put (it29_wit (n:=4) (by decide) (by decide) 1) (by rw[l1];decide) (by rw[l1,o1];decide)
 have e2:s1.put awc.cap (it29 4)={s1 with L:=s1.L++[it29 4]}:=by unfold PWt.put;rw[if_pos (by rw[l1,o1];decide)]
 rw[e2]at hS
 generalize hs2:({s1 with L:=s1.L++[it29 4]}:PWt)=s2 at *
 have l2:s2.L=[it29 1,it29 4]:=by rw[← hs2];show s1.L++_=_;rw[l1];rfl
 have o2:s2.out=0∧s2.n=0∧s2.k=k0∧s2.fails=0:=by rw[← hs2];exact⟨o1,n1,k1,f1⟩
 obtain⟨o2,n2,k2,f2⟩:=o2
 clear hs1 hs2 e1 e2 l1 o1 n1 k1 f1 hA hA1
 obtain⟨ov,nv,hi,hS⟩:=WrO.open hS Xr
 repeat first|refine Gp ?_|refine Gw λw hS=>?_|refine Gb λb w hS=>?_
 (apply zd (yx p.w.kp p.w.gp p.w.dp p.w.lp p.w.pp H3 s2.k) hS;exact Xp;clear hS)
 (rintro v post ⟨rfl,rfl⟩ w hS;(try simp only[app]at hS);(repeat (first|refine Gp ?_|refine Gw λw hS=>?_|refine Gb λb w hS=>?_)))
 have hS:=OwnSl.full (n:=1) (sz:=2) (cells:=(([⟨1,0⟩]:List PFt).map encFt).flatten) (t:=48) rfl hS
 obtain⟨H4,h34,hR2,hS⟩:=zz (H:=H3) hS Xp
 have hS:=SnkO.monoP h34 hS Xr
 (apply zd (y0 p.w H4 s2.k ⟨1,0⟩ _ hR2 (by decide) (by rw[k2,hp0];decide)) hS;exact Xp;clear hS)
 (rintro v post ⟨rfl,rfl⟩ w hS;(try simp only[app]at hS);(repeat (first|refine Gp ?_|refine Gw λw hS=>?_|refine Gb λb w hS=>?_)))
 refine ze (λh=>absurd rfl h) (λ_=>?_)
 have hA3:=hA2.push (x:=⟨1,0⟩) (by decide) (by decide)
 have hS:=WrO.putN (p:=p.w) (c:=awc) (held:=s2.held) hS (hi.mono h34) Xp
 have hS:SL W (.ob (WrO p.w awc H4 {s2 with k:={s2.k with plan:=s2.k.plan++[⟨1,0⟩]}})::_) w:=hS
 generalize hs3:({s2 with k:={s2.k with plan:=s2.k.plan++[⟨1,0⟩]}}:PWt)=s3 at *
 have l3:s3.L.length=2:=by rw[← hs3];show s2.L.length=2;rw[l2];rfl
 have p3:s3.k.plan=[⟨1,0⟩]:=by rw[← hs3];show s2.k.plan++_=_;rw[k2,hp0];rfl
 have n3:s3.n=0:=by rw[← hs3];exact n2
 have f3:s3.fails=0:=by rw[← hs3];exact f2
 have tl3:s3.L=[it29 1,it29 4]:=by rw[← hs3];exact l2
 clear hs3 o2 n2 k2 f2 hA2 l2
 repeat first|refine Gp ?_|refine Gw λw hS=>?_|refine Gb λb w hS=>?_
 have r3:s3.ready 0=true:=by unfold PWt.ready;rw[n3,if_neg (by decide),l3];rfl
 (apply zd (yT p.w awc H4 s3 0) hS;exact Xp;clear hS)
 (rintro v post ⟨rfl,rfl⟩ w hS;(try simp only[app]at hS);(repeat (first|refine Gp ?_|refine Gw λw hS=>?_|refine Gb λb w hS=>?_)))
 rw[r3]
 refine zr ?_
 repeat first|refine Gp ?_|refine Gw λw hS=>?_|refine Gb λb w hS=>?_
 (apply zd (yJ p.w awc H4 s3 0 0 hA3.w (by decide) (hA3.kok (by decide) (by decide))) hS;exact Xp;clear hS)
 rintro _ post ⟨rfl,H5,h45,rfl⟩ w hS
 (try simp only[app]at hS)
 obtain⟨hd,hne,he1,he2,_,he3,hcase⟩:=hA3.step (by decide) (now:=0) (draw:=0) r3
 have hdl:hd=[it29 1,it29 4]:=by rw[he2 n3,tl3];rfl
 rcases hcase with ⟨hp,_⟩|⟨_,hr,hn4,hf4,ht4,bt4,hA4⟩
 ·rw[p3]at hp;cases hp
 rw[hr]
 rw[p3]at he3
 subst hdl
 have hl4:(s3.step awc 0 0).1.L=[]:=by
  rw[tl3]at he1
  have h:=congrArg List.length he1
  simp only[List.length_append,List.length_cons,List.length_nil]at h
  exact List.eq_nil_of_length_eq_zero (by omega)
 rw[f3]at ht4
 have ht4:(s3.step awc 0 0).1.til=2:=by rw[ht4];decide
 generalize (s3.step awc 0 0).1=s4 at *
 have hn4:s4.n=2:=hn4
 have r4:s4.ready 1=false:=by unfold PWt.ready;rw[hn4,if_pos (by decide),ht4];decide
 have r5:s4.ready 2=true:=by unfold PWt.ready;rw[hn4,if_pos (by decide),ht4];decide
 repeat first|refine Gp ?_|refine Gw λw hS=>?_|refine Gb λb w hS=>?_
 (apply zd (yJ p.w awc H5 s4 1 0 hA4.w (by decide) (hA4.kok (by decide) (by decide))) hS;exact Xp;clear hS)
 rintro _ post ⟨rfl,H6,h56,rfl⟩ w hS
 (try simp only[app]at hS)
 have e5:s4.step awc 1 0=(s4,0,0):=by unfold PWt.step;rw[r4];rfl
 rw[e5]at hS ⊢
 repeat first|refine Gp ?_|refine Gw λw hS=>?_|refine Gb λb w hS=>?_
 (apply zd (yJ p.w awc H6 s4 2 0 hA4.w (by decide) (hA4.kok (by decide) (by decide))) hS;exact Xp;clear hS)
 rintro _ post ⟨rfl,H7,h67,rfl⟩ w hS
 (try simp only[app]at hS)
 obtain⟨hd',hne',he1',_,he2',he3',hcase⟩:=hA4.step (by decide) (now:=2) (draw:=0) r5
 rcases hcase with ⟨hp,hr,hn5,ho5,hf5,bt5,_,_,hA5⟩|⟨hp,_⟩
 ·rw[hr]
  have hdl:hd'=[it29 1,it29 4]:=he2' (by rw[hn4];decide)
  subst hdl
  have hl5:(s4.step awc 2 0).1.L=[]:=by
   rw[hl4]at he1'
   have h:=congrArg List.length he1'
   simp only[List.length_append,List.length_cons,List.length_nil]at h
   exact List.eq_nil_of_length_eq_zero (by omega)
  have hlsn:(s4.step awc 2 0).1.k.lsn=4:=by
   rcases hA5.tr with h|⟨h,_⟩
   ·exact congrArg (·.2.2) h
   ·exact absurd rfl h
  have hheld:(s4.step awc 2 0).1.held.lsn=0:=by rw[hA5.held];rfl
  have hlen:=hA5.w.hlen
  generalize (s4.step awc 2 0).1=s5 at *
  repeat first|refine Gp ?_|refine Gw λw hS=>?_|refine Gb λb w hS=>?_
  refine ze (λ_=>?_) (λh=>absurd rfl h)
  repeat first|refine Gp ?_|refine Gw λw hS=>?_|refine Gb λb w hS=>?_
  refine ze (λ_=>?_) (λh=>absurd rfl h)
  repeat first|refine Gp ?_|refine Gw λw hS=>?_|refine Gb λb w hS=>?_
  refine ze (λ_=>?_) (λh=>absurd rfl h)
  repeat first|refine Gp ?_|refine Gw λw hS=>?_|refine Gb λb w hS=>?_
  refine ze (λ_=>?_) (λh=>absurd rfl h)
  repeat first|refine Gp ?_|refine Gw λw hS=>?_|refine Gb λb w hS=>?_
  refine ze (λ_=>?_) (λh=>absurd rfl h)
  repeat first|refine Gp ?_|refine Gw λw hS=>?_|refine Gb λb w hS=>?_
  refine ze (λ_=>?_) (λh=>absurd rfl h)
  obtain⟨ov,nv,hi,hS⟩:=WrO.open hS Xr
  repeat first|refine Gp ?_|refine Gw λw hS=>?_|refine Gb λb w hS=>?_
  (apply zd (Z6 p.w.kp p.w.gp p.w.dp p.w.lp p.w.pp H7 s5.k) hS;exact Xp;clear hS)
  (rintro v post ⟨rfl,rfl⟩ w hS;(try simp only[app]at hS);(repeat (first|refine Gp ?_|refine Gw λw hS=>?_|refine Gb λb w hS=>?_)))
  refine ze (λ_=>?_) (λh=>absurd hlsn h)
  repeat first|refine Gp ?_|refine Gw λw hS=>?_|refine Gb λb w hS=>?_
  (apply zd (yq p.w.qp p.w.qb awc.cap s5.out (s5.L.map strI)) hS;exact Xp;clear hS)
  (rintro v post ⟨rfl,rfl⟩ w hS;(try simp only[app]at hS);(repeat (first|refine Gp ?_|refine Gw λw hS=>?_|refine Gb λb w hS=>?_)))
  have hcr:awc.cap-(s5.L.map strI).length-s5.out=2:=by rw[hl5,ho5];rfl
  rw[hcr]
  refine ze (λ_=>?_) (λh=>absurd rfl h)
  have hS:=WrO.put (p:=p.w) (c:=awc) s5 hS hi Xp
  repeat first|refine Gp ?_|refine Gw λw hS=>?_|refine Gb λb w hS=>?_
  (apply zd (Z0 p.w awc H7 s5 (by omega) (by omega)) hS;exact Xp;clear hS)
  rintro _ post ⟨hv,H8,h78,rfl,hx,rfl⟩ w hS
  (try simp only[app]at hS)
  have e:encIt hv=[.int .i64 0,hv.ov,hv.nv]:=by unfold encIt;rw[hx.lsn,hheld]
  rw[e]
  refine ZO (v:=.int .i64 0) Tryz.underlying46 rfl (λw=>by kernel_rfl) rfl ?_
  repeat first|refine Gp ?_|refine Gw λw hS=>?_|refine Gb λb w hS=>?_
  exact⟨_,⟨rfl,rfl⟩,SL.into hS Xi⟩
 ·exact absurd he3 hp
end Go.Proofs.YtnmhmnnadkclbaaGreat
namespace Go.Proofs.YtnmhmnnadkclbaaGreat
set_option linter.unusedVariables false
set_option maxRecDepth 100000
open Go.ChangeShapes Go.WideShapes Go.ChangeAt Go.RowKit
def tCfg:GoT PCfg:=(tPair (tInt .i64) (tPair (tInt .i64) (tPair (tInt .i64) (tPair (tInt .i64) (tPair (tInt .i64) (tPair (tInt .i64) (tPair (tInt .i64) (tPair (tInt .i64) (tPair (tInt .i64) (tPair (tInt .i64) tUnit)))))))))).via λc=>(c.tables,c.late,c.size,c.queue,c.chunk,c.batch,c.base,c.most,c.jitter,c.every,())
theorem tCfg_rd{w:World}{M:MS}{c:PCfg}{cs:List Value}(h:tCfg.rd w M c cs):cs=encCfg c:=by
 obtain⟨c1,c2,rfl,h1,c3,c4,rfl,h3,c5,c6,rfl,h5,c7,c8,rfl,h7,c9,c10,rfl,h9,c11,c12,rfl,h11,c13,c14,rfl,h13,c15,c16,rfl,h15,c17,c18,rfl,h17,c19,c20,rfl,h19,h20⟩:=h
 have h1':c1=[.int .i64 c.tables]:=h1
 have h3':c3=[.int .i64 c.late]:=h3
 have h5':c5=[.int .i64 c.size]:=h5
 have h7':c7=[.int .i64 c.queue]:=h7
 have h9':c9=[.int .i64 c.chunk]:=h9
 have h11':c11=[.int .i64 c.batch]:=h11
 have h13':c13=[.int .i64 c.base]:=h13
 have h15':c15=[.int .i64 c.most]:=h15
 have h17':c17=[.int .i64 c.jitter]:=h17
 have h19':c19=[.int .i64 c.every]:=h19
 have h20':c20=[]:=h20
 subst h1' h3' h5' h7' h9' h11' h13' h15' h17' h19' h20'
 rfl
def okCfgA(c:PCfg):Prop:=True
theorem cfgOpens:Opens Tryz.prog 109 tCfg okCfgA:=
 yH (yw (λc:PCfg=>(c.tables,c.late,c.size,c.queue,c.chunk,c.batch,c.base,c.most,c.jitter,c.every,())) (λx=>⟨x.1,x.2.1,x.2.2.1,x.2.2.2.1,x.2.2.2.2.1,x.2.2.2.2.2.1,x.2.2.2.2.2.2.1,x.2.2.2.2.2.2.2.1,x.2.2.2.2.2.2.2.2.1,x.2.2.2.2.2.2.2.2.2.1⟩) (λ_=>rfl)
  (zX Tryz.underlying109 (by kernel_rfl) (fields_cons (zu Tryz.underlying3 (by kernel_rfl)) rfl (fields_cons (zu Tryz.underlying3 (by kernel_rfl)) rfl (fields_cons (zu Tryz.underlying3 (by kernel_rfl)) rfl (fields_cons (zu Tryz.underlying3 (by kernel_rfl)) rfl (fields_cons (zu Tryz.underlying3 (by kernel_rfl)) rfl (fields_cons (zu Tryz.underlying3 (by kernel_rfl)) rfl
   (fields_cons (zu Tryz.underlying2 (by kernel_rfl)) rfl (fields_cons (zu Tryz.underlying2 (by kernel_rfl)) rfl (fields_cons (zu Tryz.underlying2 (by kernel_rfl)) rfl (fields_cons (zu Tryz.underlying2 (by kernel_rfl)) rfl (fields_nil _ _)))))))))))))
  (λc h=>trivial)
structure O29 where
 kind:Int
 n:Int
 now:Int
 draw:Int
 item:PItem
 fault:PFt
structure O29V where
 kind:Int
 n:Int
 now:Int
 draw:Int
 it:ItV
 ft:PFt
def enc29(x:O29V):List Value:=[.int .i64 x.kind,.int .i64 x.n,.int .i64 x.now,.int .i64 x.draw]++encIt x.it++encFt x.ft
theorem enc29_len(x:O29V):(enc29 x).length=9:=rfl
structure Is29(H:Heap)(x:O29V)(o:O29):Prop where
 kind:x.kind=o.kind
 n:x.n=o.n
 now:x.now=o.now
 draw:x.draw=o.draw
 it:ItIs H x.it o.item
 ft:x.ft=o.fault
theorem Is29.mono{H H':Heap}(hh:H.le H'){x:O29V}{o:O29}(h:Is29 H x o):Is29 H' x o:=⟨h.kind,h.n,h.now,h.draw,h.it.mono hh,h.ft⟩
theorem enc29_one{H:Heap}{x:O29V}{o:O29}(h:Is29 H x o):∀v∈enc29 x,v.oneCell'=true:=by
 intro v hv
 unfold enc29 at hv
 rcases List.mem_append.1 hv with hv|hv
 ·rcases List.mem_append.1 hv with hv|hv
  ·simp only[List.mem_cons,List.not_mem_nil,or_false]at hv
   rcases hv with rfl|rfl|rfl|rfl<;>rfl
  ·exact encIt_one h.it v hv
 ·exact encFt_one _ v hv
def Rd29(H:Heap)(v:Value)(l:List O29):Prop:=∃xs:List O29V,xs.length=l.length∧RdSl H 9 v l.length (xs.map enc29).flatten∧∀i (h:i<l.length) (h':i<xs.length),Is29 H xs[i] l[i]
def t29:GoT O29:=(tPair (tInt .i64) (tPair (tInt .i64) (tPair (tInt .i64) (tPair (tInt .i64) (tPair tItem (tPair tFt tUnit)))))).via λo=>(o.kind,o.n,o.now,o.draw,o.item,o.fault,())
theorem t29_rd{w:World}{o:O29}{cs:List Value}(h:t29.rd w Nob o cs):∃x:O29V,cs=enc29 x∧Is29 (Heap.of w) x o:=by
 obtain⟨c1,c2,rfl,h1,c3,c4,rfl,h3,c5,c6,rfl,h5,c7,c8,rfl,h7,c9,c10,rfl,h9,c11,c12,rfl,h11,h12⟩:=h
 have h1':c1=[.int .i64 o.kind]:=h1
 have h3':c3=[.int .i64 o.n]:=h3
 have h5':c5=[.int .i64 o.now]:=h5
 have h7':c7=[.int .i64 o.draw]:=h7
 obtain⟨it,h9',hit⟩:=tItem_rd h9
 have h11':=tFt_rd h11
 have h12':c12=[]:=h12
 subst h1' h3' h5' h7' h9' h11' h12'
 exact⟨⟨o.kind,o.n,o.now,o.draw,it,o.fault⟩,rfl,rfl,rfl,rfl,rfl,hit,rfl⟩
theorem Rd29.of{w:World}{l:List O29}{v:Value}(h:RdS t29 w Nob l v):Rd29 (Heap.of w) v l:=by
 obtain⟨css,h1,h2,h3⟩:=RdS.cellsN h (by decide)
 have hex:∀i,∃x:O29V,∀(h:i<l.length) (h':i<css.length),css[i]=enc29 x∧Is29 (Heap.of w) x l[i]:=λi=>by
  by_cases hi:i<l.length
  ·obtain⟨x,e,hx⟩:=t29_rd (h3 i hi (by omega))
   exact⟨x,λ_ _=>⟨e,hx⟩⟩
  ·exact⟨⟨0,0,0,0,⟨0,.slice none 0 0,.slice none 0 0⟩,⟨0,0⟩⟩,λh=>absurd h hi⟩
 obtain⟨f,hf⟩:=Classical.axiomOfChoice hex
 refine⟨(List.range l.length).map f,by simp,?_,λi hi hi'=>by simpa using (hf i hi (by omega)).2⟩
 have e:css=((List.range l.length).map f).map enc29:=List.ext_getElem (by simp[h1]) λi g1 g2=>by simpa using (hf i (by omega) g1).1
 rw[e]at h2
 exact h2
structure ok29(o:O29):Prop where
 draw:inI64 o.draw
 n:inI64 o.n
 item:okItemA o.item
 ft:okFtA o.fault
theorem o29Opens:Opens Tryz.prog 135 t29 ok29:=
 yH (yw (λo:O29=>(o.kind,o.n,o.now,o.draw,o.item,o.fault,())) (λx=>⟨x.1,x.2.1,x.2.2.1,x.2.2.2.1,x.2.2.2.2.1,x.2.2.2.2.2.1⟩) (λ_=>rfl)
  (zX Tryz.underlying135 (by kernel_rfl) (fields_cons (zu Tryz.underlying3 (by kernel_rfl)) rfl (fields_cons (zu Tryz.underlying3 (by kernel_rfl)) rfl (fields_cons (zu Tryz.underlying2 (by kernel_rfl)) rfl (fields_cons (zu Tryz.underlying2 (by kernel_rfl)) rfl
   (fields_cons QO rfl (fields_cons ftOpens rfl (fields_nil _ _)))))))))
  (λo h=>⟨inK_i64 h.2.2.2.1,inK_i64 h.2.1,h.2.2.2.2.1,h.2.2.2.2.2.1⟩)
theorem Is29.cells{H:Heap}{x:O29V}{o:O29}(h:Is29 H x o):enc29 x=[.int .i64 o.kind,.int .i64 o.n,.int .i64 o.now,.int .i64 o.draw,.int .i64 o.item.lsn,x.it.ov,x.it.nv,.int .i64 o.fault.kind,.int .i64 o.fault.keep]:=by
 unfold enc29 encIt encFt
 rw[h.kind,h.n,h.now,h.draw,h.it.lsn,h.ft];rfl
end Go.Proofs.YtnmhmnnadkclbaaGreat
namespace Go.Proofs.YtnmhmnnadkclbaaGreat
set_option linter.unusedVariables false
set_option maxRecDepth 100000
open Go.RowKit
def wcfOf(c:PCfg):WCf:=⟨1+md c.queue 5,1+md c.batch 4,1+(md c.base 4:Int),1+(md c.base 4:Int)+(md c.most 12:Int),(md c.jitter 4:Int)⟩
theorem cfgOf_ok(c:PCfg):CfgOk (cfgOf c) (wcfOf c) (1+md c.tables 4):=by
 have h1:=md_lt c.tables 4 (by decide)
 have h2:=md_lt c.size 4 (by decide)
 have h3:=md_lt c.queue 5 (by decide)
 have h5:=md_lt c.batch 4 (by decide)
 have h6:=md_lt c.base 4 (by decide)
 have h7:=md_lt c.most 12 (by decide)
 have h8:=md_lt c.jitter 4 (by decide)
 have h9:=cfgSz_in h2
 refine⟨by omega,by omega,?_,h9.1,by have:=h9.2;show cfgSz (md c.size 4)≤65536;omega,?_,?_,?_,?_,?_,?_,rfl,rfl,rfl,?_⟩
 ·show 1+(md c.tables 4:Int)=((1+md c.tables 4:Nat):Int);omega
 ·show 1+(md c.queue 5:Int)=((1+md c.queue 5:Nat):Int);omega
 ·show 1≤1+md c.queue 5;omega
 ·show 1+md c.queue 5≤64;omega
 ·show 1+(md c.batch 4:Int)=((1+md c.batch 4:Nat):Int);omega
 ·show 1≤1+md c.batch 4;omega
 ·show 1+md c.batch 4≤64;omega
 ·show MayB (1+(md c.base 4:Int)) (1+(md c.base 4:Int)+(md c.most 12:Int)) (md c.jitter 4:Int)
  refine⟨?_,?_,?_,?_,?_,?_⟩<;>omega
theorem lastL_le{b n:Int}(hb:b≤n):∀{l:List PItem},(∀x∈l,x.lsn≤n)→lastL b l≤n
 | [],_=>hb
 | x::l,h=>lastL_le (b:=x.lsn) (h x (.head _)) (λy hy=>h y (.tail _ hy))
structure PDk(c:WCf)(n:Nat)(s:PWt)(i lsn:Nat):Prop where
 w:WtInv c n s i
 p:∃xs m,PInv n s.k i xs m
 le:∀x∈s.L,x.lsn≤(lsn:Int)
 l:lsn≤3*i
theorem PDk.mono{c:WCf}{n:Nat}{s:PWt}{i lsn:Nat}(h:PDk c n s i lsn):PDk c n s (i+1) lsn:=by
 obtain⟨xs,m,hP⟩:=h.p
 have:=h.l
 exact⟨h.w.mono (by omega),⟨xs,m,hP.mono (by omega)⟩,h.le,by omega⟩
theorem PDk.kok{c:WCf}{n:Nat}{s:PWt}{i lsn:Nat}(h:PDk c n s i lsn)(hi:i≤100)(n8:n≤8):KOk s.k (1000000*(i+1)) 100∧∀f∈s.k.plan,f.keep≤9223372036854775807:=by
 obtain⟨xs,m,hP⟩:=h.p
 exact⟨hP.kok hi n8,hP.keep⟩
theorem PDk.put{c:WCf}{n:Nat}{s:PWt}{i lsn:Nat}(h:PDk c n s i lsn){t:PItem}(ht:WIt n t){lsn':Nat}(hl:t.lsn=(lsn':Int))(h1:lsn<lsn')(h2:lsn'≤lsn+3):
  PDk c n (s.put c.cap t) (i+1) (if s.L.length+s.out<c.cap then lsn' else lsn):=by
 unfold PWt.put
 split
 ·rename_i hr
  have hw:=h.w
  obtain⟨xs,m,hP⟩:=h.p
  have hll:=h.l
  have hrs:RiseI 0 (s.L++[t]):=hw.rise.snoc (by have:=lastL_le (b:=0) (n:=(lsn:Int)) (by omega) h.le;omega)
  refine⟨⟨hw.cap1,hw.cap,hw.most1,hw.most,λy hy=>?_,hrs,?_,hw.out,hw.held,hw.f0,by have:=hw.f1;show s.fails≤_;omega⟩,⟨xs,m,hP.mono (by omega)⟩,λy hy=>?_,by omega⟩
  ·rcases List.mem_append.1 hy with hy|hy
   ·exact hw.it y hy
   ·rw[List.mem_singleton.1 hy];exact ht
  ·show (s.L++[t]).length+s.out≤c.cap
   rw[List.length_append,List.length_singleton];omega
  ·rcases List.mem_append.1 hy with hy|hy
   ·have:=h.le y hy;omega
   ·rw[List.mem_singleton.1 hy];omega
 ·exact h.mono
theorem step_k(c:WCf)(s:PWt)(now draw:Int):((s.step c now draw).1.k=s.k∨∃x,(s.step c now draw).1.k=(s.k.commitK x).1)∧∀x∈(s.step c now draw).1.L,x∈s.L:=by
 have hh:(s.hold c.most).k=s.k∧∀x∈(s.hold c.most).L,x∈s.L:=by
  unfold PWt.hold
  split
  ·exact⟨rfl,λx hx=>List.mem_of_mem_drop hx⟩
  ·exact⟨rfl,λx hx=>hx⟩
 unfold PWt.step
 split
 ·rw[← hh.1]
  have h2:=hh.2
  generalize s.hold c.most=s1 at *
  unfold PWt.hand
  split
  ·exact⟨.inr ⟨_,rfl⟩,h2⟩
  ·split
   ·exact⟨.inr ⟨_,rfl⟩,h2⟩
   ·exact⟨.inr ⟨_,rfl⟩,h2⟩
 ·exact⟨.inl rfl,λx hx=>hx⟩
theorem PDk.step{c:WCf}{n:Nat}{s:PWt}{i lsn:Nat}(h:PDk c n s i lsn)(hi:i≤100)(now draw:Int):PDk c n (s.step c now draw).1 (i+1) lsn:=by
 obtain⟨xs,m,hP⟩:=h.p
 obtain⟨hk,hL⟩:=step_k c s now draw
 have hl:=h.l
 refine⟨h.w.step now draw,?_,λx hx=>h.le x (hL x hx),by omega⟩
 rcases hk with e|⟨x,e⟩
 ·rw[e];exact⟨xs,m,hP.mono (by omega)⟩
 ·rw[e]
  obtain⟨xs',m',h'⟩:=hP.commit hi x
  exact⟨xs',m',h'⟩
theorem PDk.sink{c:WCf}{n:Nat}{s:PWt}{i lsn:Nat}(h:PDk c n s i lsn){k:PSink}(hk:∃xs m,PInv n k (i+1) xs m):PDk c n {s with k:=k} (i+1) lsn:=by
 have hl:=h.l
 have hw:=h.w
 exact⟨⟨hw.cap1,hw.cap,hw.most1,hw.most,hw.it,hw.rise,hw.room,hw.out,hw.held,hw.f0,by have:=hw.f1;show s.fails≤_;omega⟩,hk,h.le,by omega⟩
theorem it29_cells{a b c d e f:Value}{l:Int}{ov nv:Value}:∀j v,([.int .i64 l,ov,nv]:List Value)[j]?=some v→[a,b,c,d,.int .i64 l,ov,nv,e,f][4+j]?=some v
 | 0,v,h=>h
 | 1,v,h=>h
 | 2,v,h=>h
 | j+3,v,h=>by simp at h
theorem ft29_cells{a b c d e g h:Value}{f:PFt}:∀j v,(encFt f)[j]?=some v→[a,b,c,d,e,g,h,.int .i64 f.kind,.int .i64 f.keep][7+j]?=some v
 | 0,v,h=>h
 | 1,v,h=>h
 | j+2,v,h=>by simp[encFt]at h
theorem piOf_wit(t:PItem)(k lsn:Nat)(hk:0<k)(hk8:k≤8)(hl:lsn+3≤1099511627776):WIt k (piOf t k lsn):=
 ⟨piOf_may t k lsn hk hk8 hl (out:=[]) (by decide) (by simp),piOf_tabs t k lsn hk hk8 [],by show ((t.ops.take 5).map _).length≤5;rw[List.length_map,List.length_take];omega,rfl⟩
theorem Zp(H:Heap)(c:PCfg)(v:Value)(l:List O29)(hv:Rd29 H v l)(hok:∀o∈l,ok29 o):
  SP 11 [agg (encCfg c),v] [.mem H] (λv post=>v= .bool true∧∃H' l,H.le H'∧post= .mem H'::l):=by
 intro W F w hS;apply vc11;unfold Vc11;(try simp only[app]at hS)
 obtain⟨xs,hxl,hxr,hxi⟩:=hv
 refine zB hS λcb w hS=>?_
 refine zA hS Xh rfl ?_
 (apply zd (qd c) hS;exact Xp;clear hS)
 rintro _ post ⟨rfl,rfl⟩ w hS
 (try simp only[app]at hS)
 refine zP hS Xu rfl rfl (encCfg_one _) λw hS=>?_
 refine zA hS Xh rfl ?_
 have hcf:=cfgOf_ok c
 generalize cfgOf c=cc at *
 generalize wcfOf c=kc at *
 generalize 1+md c.tables 4=n at *
 obtain⟨k0,ho,hI0,hp0,hd0,hl0,he0⟩:=PInv.first hcf.n1 hcf.n8 hcf.s0 hcf.s1
 (apply zd (Zc H cc kc n hcf k0 ho he0) hS;exact Xp;clear hS)
 rintro _ post ⟨p,H1,h01,rfl,rfl⟩ w hS
 (try simp only[app]at hS)
 repeat first|refine Gp ?_|refine Gw λw hS=>?_|refine Gb λb w hS=>?_
 refine zr ?_
 have hn1:=hcf.n1
 have hn8:=hcf.n8
 have hct:=hcf.tables
 have hP0:PDk kc n (s0W k0) 0 0:=⟨(AInv.first hI0 hd0 hcf.q1 hcf.q64 hcf.b1 hcf.b64).w,⟨_,_,hI0⟩,λx hx=>(by cases hx),Nat.le_refl _⟩
 obtain⟨ct,cl,cs,cq,cch,cba,cb0,cm,cj,ce⟩:=cc
 simp only at hct
 subst hct
 unfold encCfg at hS
 generalize hCB:Chunk.pt cb [.int .i64 (n:Int),.int .i64 cl,.int .i64 cs,.int .i64 cq,.int .i64 cch,.int .i64 cba,.int .i64 cb0,.int .i64 cm,.int .i64 cj,.int .i64 ce] 109=CB at hS
 have hS:SL W (CB::DeskP p 0::.ob (WrO p.w kc H1 (s0W k0))::.ob (RWrO p.r kc H1 (s0W k0))::.mem H1::F) w:=SL.into hS Xi
 refine⟨λus w=>∃(i lsn:Nat) (now:Int) (H2:Heap) (s:PWt),us=[.int .i64 now,.int .i64 i]∧i≤100∧i≤l.length∧0≤now∧now≤6*i∧H.le H2∧PDk kc n s i lsn∧SL W (CB::DeskP p lsn::.ob (WrO p.w kc H2 s)::.ob (RWrO p.r kc H2 s)::.mem H2::F) w,
  λus _=>match us with|[_,.int _ i]=>(l.length-i).toNat|_=>0,⟨0,0,0,H1,s0W k0,rfl,by omega,by omega,by omega,by omega,h01,hP0,hS⟩,?_⟩
 clear hS hP0 hI0 hp0 hd0 hl0 he0 ho h01
 rintro v6 v7 w ⟨i,lsn,now,H2,s,hus,hi,hil,hw0,hw1,h02,hP,hS⟩
 cases hus
 have hend:∀{w:World},SL W (.mem H2::F) w→HCl 51 [] w λv w=>∃post,(v= .bool true∧∃H' l,H.le H'∧post= .mem H'::l)∧SL W (app post F) w:=λhS=>by
  (apply zd (Yz) hS;exact Xp;clear hS)
  (rintro v post ⟨rfl,rfl⟩ w hS;(try simp only[app]at hS);(repeat (first|refine Gp ?_|refine Gw λw hS=>?_|refine Gb λb w hS=>?_)))
  exact⟨_,⟨rfl,H2,[],h02,rfl⟩,SL.into hS Xi⟩
 refine zq hxr ?_
 repeat first|refine Gp ?_|refine Gw λw hS=>?_|refine Gb λb w hS=>?_
 refine ze (λha=>?_) (λha=>hend (SL.into hS Xi))
 repeat first|refine Gp ?_|refine Gw λw hS=>?_|refine Gb λb w hS=>?_
 refine ze (λhb=>?_) (λhb=>hend (SL.into hS Xi))
 clear hend
 have hl:i<l.length:=by omega
 have hix:i<xs.length:=by omega
 have hx:xs[i]?=some xs[i]:=List.getElem?_eq_getElem hix
 have hxo:=(hxi i hl hix).mono h02
 have hoko:=hok _ (List.getElem_mem hl)
 generalize xs[i]=x at *
 generalize l[i]=o at *
 refine zH hS Xh enc29_len (hxr.mono h02) hx hl ?_
 refine Gb λab w hS=>?_
 refine zP hS Xu rfl rfl (enc29_one hxo) λw hS=>?_
 rw[hxo.cells]at hS
 repeat first|refine Gp ?_|refine Gw λw hS=>?_|refine Gb λb w hS=>?_
 have hm6:=md_lt o.now 6 (by decide)
 have hm10:=md_lt o.kind 10 (by decide)
 (apply zd (zV o.now 6 (by decide) (by decide)) hS;exact Xp;clear hS)
 (rintro v post ⟨rfl,rfl⟩ w hS;(try simp only[app]at hS);(repeat (first|refine Gp ?_|refine Gw λw hS=>?_|refine Gb λb w hS=>?_)))
 have hll:=hP.l
 obtain⟨hkok,hkeep⟩:=hP.kok (by omega) hn8
 generalize hnow:now+(md o.now 6:Int)=now' at *
 have hDone:∀{w:World} {H3:Heap} {s':PWt} {lsn':Nat},H2.le H3→PDk kc n s' (i+1) lsn'→SL W (CB::DeskP p lsn'::.ob (WrO p.w kc H3 s')::.ob (RWrO p.r kc H3 s')::.mem H3::F) w→∃(H3:Heap) (s':PWt) (lsn':Nat),([]:List Value)=[]∧H.le H3∧PDk kc n s' (i+1) lsn'∧SL W (CB::DeskP p lsn'::.ob (WrO p.w kc H3 s')::.ob (RWrO p.r kc H3 s')::.mem H3::F) w:=λhh hp hS=>⟨_,_,_,rfl,Heap.le_trans h02 hh,hp,hS⟩
 refine⟨λus w=>∃(H3:Heap) (s':PWt) (lsn':Nat),us=[]∧H.le H3∧PDk kc n s' (i+1) lsn'∧SL W (CB::DeskP p lsn'::.ob (WrO p.w kc H3 s')::.ob (RWrO p.r kc H3 s')::.mem H3::F) w,?_,?_⟩
 ·repeat first|refine Gp ?_|refine Gw λw hS=>?_|refine Gb λb w hS=>?_
  (apply zd (yg o.kind 10 (by decide) (by decide)) hS;exact Xp;clear hS)
  (rintro v post ⟨rfl,rfl⟩ w hS;(try simp only[app]at hS);(repeat (first|refine Gp ?_|refine Gw λw hS=>?_|refine Gb λb w hS=>?_)))
  refine ze (λh4=>?_) (λh4=>?_)
  ·repeat first|refine Gp ?_|refine Gw λw hS=>?_|refine Gb λb w hS=>?_
   refine yS (vs:=[.int .i64 o.item.lsn,x.it.ov,x.it.nv]) hS Xh rfl it29_cells ?_
   rw[← hCB]at hS
   repeat first|refine Gp ?_|refine Gw λw hS=>?_|refine Gb λb w hS=>?_
   have hxi:ItIs H2 ⟨o.item.lsn,x.it.ov,x.it.nv⟩ o.item:=⟨rfl,hxo.it.ops,hxo.it.nts⟩
   have hm3:=md_lt o.item.lsn 3 (by decide)
   (apply zd (qs H2 ⟨o.item.lsn,x.it.ov,x.it.nv⟩ o.item hxi n lsn hn1 hn8 (by omega) hoko.item.nops) hS;exact Xp;clear hS)
   rintro _ post ⟨ov,H3,h23,rfl,hops,rfl⟩ w hS
   (try simp only[app]at hS)
   have hq:=piOf_wit o.item n lsn hn1 hn8 (by omega)
   have hzi:ItIs H3 ⟨(piOf o.item n lsn).lsn,ov,.slice none 0 0⟩ (piOf o.item n lsn):=⟨rfl,hops,RdSl.nil _ _⟩
   have hzl:(piOf o.item n lsn).lsn=((lsn+1+md o.item.lsn 3:Nat):Int):=rfl
   generalize piOf o.item n lsn=z at *
   have hS:=WrO.monoP h23 hS Xr
   have hS:=RWrO.monoP h23 hS Xr
   (apply zd (y6 p kc H3 s lsn ⟨z.lsn,ov,.slice none 0 0⟩ z hzi hq.may hP.w) hS;exact Xp;clear hS)
   rintro _ post ⟨rfl,H4,h34,rfl⟩ w hS
   (try simp only[app]at hS)
   repeat first|refine Gp ?_|refine Gw λw hS=>?_|refine Gb λb w hS=>?_
   refine zr ?_
   have hP':=hP.put hq hzl (by omega) (by omega)
   rw[hzl]at hS
   have e:(if s.L.length+s.out<kc.cap then ((lsn+1+md o.item.lsn 3:Nat):Int) else (lsn:Int))=((if s.L.length+s.out<kc.cap then lsn+1+md o.item.lsn 3 else lsn:Nat):Int):=by split<;>rfl
   rw[e]at hS
   rw[hCB]at hS
   exact hDone (Heap.le_trans h23 h34) hP' (SL.into hS Xi)
  repeat first|refine Gp ?_|refine Gw λw hS=>?_|refine Gb λb w hS=>?_
  refine ze (λh8=>?_) (λh8=>?_)
  ·repeat first|refine Gp ?_|refine Gw λw hS=>?_|refine Gb λb w hS=>?_
   (apply zd (yJ p.w kc H2 s now' o.draw hP.w (by omega) hkok) hS;exact Xp;clear hS)
   rintro _ post ⟨rfl,H3,h23,rfl⟩ w hS
   (try simp only[app]at hS)
   have hS:=RWrO.monoP h23 hS Xr
   repeat first|refine Gp ?_|refine Gw λw hS=>?_|refine Gb λb w hS=>?_
   (apply zd (YW p.r kc H3 s now' o.draw hP.w (by omega) hkok hkeep) hS;exact Xp;clear hS)
   rintro _ post ⟨rfl,H4,h34,rfl⟩ w hS
   (try simp only[app]at hS)
   have hS:=WrO.monoP h34 hS Xr
   repeat first|refine Gp ?_|refine Gw λw hS=>?_|refine Gb λb w hS=>?_
   refine ze (λh=>absurd rfl h) (λ_=>?_)
   repeat first|refine Gp ?_|refine Gw λw hS=>?_|refine Gb λb w hS=>?_
   refine ze (λh=>absurd rfl h) (λ_=>?_)
   exact hDone (Heap.le_trans h23 h34) (hP.step (by omega) now' o.draw) (SL.into hS Xi)
  repeat first|refine Gp ?_|refine Gw λw hS=>?_|refine Gb λb w hS=>?_
  obtain⟨xs0,m0,hPI⟩:=hP.p
  refine ze (λh9=>?_) (λh9=>?_)
  ·repeat first|refine Gp ?_|refine Gw λw hS=>?_|refine Gb λb w hS=>?_
   refine yS (vs:=encFt o.fault) hS Xh rfl ft29_cells ?_
   (apply zd (qa o.fault) hS;exact Xp;clear hS)
   (rintro v post ⟨rfl,rfl⟩ w hS;(try simp only[app]at hS);(repeat (first|refine Gp ?_|refine Gw λw hS=>?_|refine Gb λb w hS=>?_)))
   have hfm:=ftOf_may o.fault
   have hfk:=ftOf_keep o.fault
   generalize ftOf o.fault=f at *
   obtain⟨rov,rnv,gv,⟨hri,hrg⟩,hS⟩:=RWrO.open hS Xr
   obtain⟨rv,pv,⟨hr,hp⟩,hS⟩:=RSnkO.open (k:=s.k) hS Xr
   have hplen:=hPI.pl
   repeat first|refine Gp ?_|refine Gw λw hS=>?_|refine Gb λb w hS=>?_
   have hS:=OwnSl.full (n:=1) (sz:=2) (cells:=(([f]:List PFt).map encFt).flatten) (t:=48) rfl hS
   obtain⟨H3,h23,hR1,hS⟩:=zz (H:=H2) hS Xp
   repeat first|refine Gp ?_|refine Gw λw hS=>?_|refine Gb λb w hS=>?_
   (apply zd (qR H3 pv _ s.k.plan [f] (hp.mono h23) hR1 (by simp) (by omega)) hS;exact Xp;clear hS)
   rintro pv' post ⟨H4,h34,hp',rfl⟩ w hS
   (try simp only[app]at hS)
   have h24:=Heap.le_trans h23 h34
   have hpu:=pushed (p:=s.k.plan) hfm (by omega)
   rw[hpu]at hp'
   have hPI':=hPI.push hfm hfk
   have h1:=RdSl.one hp'
   repeat first|refine Gp ?_|refine Gw λw hS=>?_|refine Gb λb w hS=>?_
   have hS:=WrO.monoP h24 hS Xr
   have hS:=Ref.monoP h24 hS Xr
   have hS:=RDO.monoP h24 hS Xr
   have hS:=RSnkO.putN (H:=H4) hS (hr.mono h24) hp' Xp
   have hS:=RWrO.putN (p:=p.r) (c:=kc) (H:=H4) (L:=s.L) (held:=s.held) hS (hri.mono h24) (hrg.mono h24) Xp rfl
   have hd1:PDk kc n {s with k:={s.k with plan:=s.k.plan++[f]}} (i+1) lsn:=hP.sink ⟨_,_,hPI'⟩
   repeat first|refine Gp ?_|refine Gw λw hS=>?_|refine Gb λb w hS=>?_
   refine⟨?_,?_⟩
   ·obtain⟨ov,nv,hi,hS⟩:=WrO.open hS Xr
    (apply zd (yx p.w.kp p.w.gp p.w.dp p.w.lp p.w.pp H4 s.k) hS;exact Xp;clear hS)
    (rintro v post ⟨rfl,rfl⟩ w hS;(try simp only[app]at hS);(repeat (first|refine Gp ?_|refine Gw λw hS=>?_|refine Gb λb w hS=>?_)))
    have hS:=OwnSl.full (n:=1) (sz:=2) (cells:=(([f]:List PFt).map encFt).flatten) (t:=48) rfl hS
    obtain⟨H5,h45,hR2,hS⟩:=zz (H:=H4) hS Xp
    have hS:=SnkO.monoP h45 hS Xr
    have hS:=RWrO.monoP h45 hS Xr
    (apply zd (y0 p.w H5 s.k f _ hR2 hfm (by omega)) hS;exact Xp;clear hS)
    (rintro v post ⟨rfl,rfl⟩ w hS;(try simp only[app]at hS);(repeat (first|refine Gp ?_|refine Gw λw hS=>?_|refine Gb λb w hS=>?_)))
    refine ze (λh=>absurd rfl h) (λ_=>?_)
    have hS:=WrO.putN (p:=p.w) (c:=kc) (L:=s.L) (held:=s.held) hS (hi.mono h45) Xp
    exact hDone (Heap.le_trans h24 h45) hd1 (SL.into hS Xi)
   ·refine Gb λfb3 w hS=>?_
    have hS:=OwnSl.full (n:=1) (sz:=2) (cells:=(([f]:List PFt).map encFt).flatten) (t:=48) rfl hS
    obtain⟨H5,h45,hR2,hS⟩:=zz (H:=H4) hS Xp
    have hS:=WrO.monoP h45 hS Xr
    have hS:=RWrO.monoP h45 hS Xr
    obtain⟨ov,nv,hi,hS⟩:=WrO.open hS Xr
    repeat first|refine Gp ?_|refine Gw λw hS=>?_|refine Gb λb w hS=>?_
    (apply zd (yx p.w.kp p.w.gp p.w.dp p.w.lp p.w.pp H5 s.k) hS;exact Xp;clear hS)
    (rintro v post ⟨rfl,rfl⟩ w hS;(try simp only[app]at hS);(repeat (first|refine Gp ?_|refine Gw λw hS=>?_|refine Gb λb w hS=>?_)))
    (apply zd (y0 p.w H5 s.k f _ hR2 hfm (by omega)) hS;exact Xp;clear hS)
    (rintro v post ⟨rfl,rfl⟩ w hS;(try simp only[app]at hS);(repeat (first|refine Gp ?_|refine Gw λw hS=>?_|refine Gb λb w hS=>?_)))
    refine ze (λh=>absurd rfl h) (λ_=>?_)
    have hS:=WrO.putN (p:=p.w) (c:=kc) (L:=s.L) (held:=s.held) hS hi Xp
    exact hDone (Heap.le_trans h24 h45) hd1 (SL.into hS Xi)
  ·obtain⟨ov,nv,hi,hS⟩:=WrO.open hS Xr
   obtain⟨qv,hq,hS⟩:=SnkO.open (k:=s.k) hS Xr
   obtain⟨rov,rnv,gv,⟨hri,hrg⟩,hS⟩:=RWrO.open hS Xr
   obtain⟨rv,pv,⟨hr,hp⟩,hS⟩:=RSnkO.open (k:=s.k) hS Xr
   have hm12:=md_lt o.n 12 (by decide)
   repeat first|refine Gp ?_|refine Gw λw hS=>?_|refine Gb λb w hS=>?_
   (apply zd (yg o.n 12 (by decide) (by decide)) hS;exact Xp;clear hS)
   (rintro v post ⟨rfl,rfl⟩ w hS;(try simp only[app]at hS);(repeat (first|refine Gp ?_|refine Gw λw hS=>?_|refine Gb λb w hS=>?_)))
   (apply zd (Qv p.w.dp s.k.d (md o.n 12:Nat)) hS;exact Xp;clear hS)
   (rintro v post ⟨rfl,rfl⟩ w hS;(try simp only[app]at hS);(repeat (first|refine Gp ?_|refine Gw λw hS=>?_|refine Gb λb w hS=>?_)))
   (apply zd (yg o.n 12 (by decide) (by decide)) hS;exact Xp;clear hS)
   (rintro v post ⟨rfl,rfl⟩ w hS;(try simp only[app]at hS);(repeat (first|refine Gp ?_|refine Gw λw hS=>?_|refine Gb λb w hS=>?_)))
   (apply zd (Qw H2 p.r.xp s.k.d (md o.n 12:Nat)) hS;exact Xp;clear hS)
   (rintro v post ⟨rfl,rfl⟩ w hS;(try simp only[app]at hS);(repeat (first|refine Gp ?_|refine Gw λw hS=>?_|refine Gb λb w hS=>?_)))
   have hPI':=hPI.armed (a:=(md o.n 12:Nat)) (by omega)
   have hd1:PDk kc n {s with k:={s.k with d:=s.k.d.armed (md o.n 12:Nat)}} (i+1) lsn:=hP.sink ⟨_,_,hPI'⟩
   have hS:=SnkO.putN (H:=H2) (reqs:=s.k.reqs) hS hq Xp
   have hS:=RSnkO.putN (H:=H2) hS hr hp Xp
   have hS:=WrO.putN (p:=p.w) (c:=kc) (L:=s.L) (held:=s.held) hS hi Xp
   have hS:=RWrO.putN (p:=p.r) (c:=kc) (L:=s.L) (held:=s.held) hS hri hrg Xp rfl
   exact hDone (Heap.le_refl H2) hd1 (SL.into hS Xi)
 clear hS hDone hkok hkeep hP hxo
 rintro w ⟨H3,s',lsn',-,h03,hP,hS⟩
 by_cases hi100:i+1≤100
 ·obtain⟨hkok,_⟩:=hP.kok hi100 hn8
  (apply zd (Yw p kc H3 s' lsn' now' hP.w hkok) hS;exact Xp;clear hS)
  rintro _ post ⟨rfl,H4,h34,rfl⟩ w hS
  (try simp only[app]at hS)
  repeat first|refine Gp ?_|refine Gw λw hS=>?_|refine Gb λb w hS=>?_
  refine zr ?_
  have hsm:small s'.k.ts 0:=small_mono hkok.room (by omega)
  refine⟨λus w=>∃(t:Nat) (H5:Heap),us=[.int .i64 t]∧t≤n∧H4.le H5∧SL W (CB::DeskP p lsn'::.ob (WrO p.w kc H5 s')::.ob (RWrO p.r kc H5 s')::.mem H5::F) w,
   λus _=>match us with|[.int _ t]=>(n-t).toNat|_=>0,⟨0,H4,rfl,by omega,Heap.le_refl H4,SL.into hS Xi⟩,?_⟩
  clear hS
  rintro v15 w ⟨t,H5,hus,htn,h45,hS⟩
  cases hus
  rw[← hCB]at hS
  repeat first|refine Gp ?_|refine Gw λw hS=>?_|refine Gb λb w hS=>?_
  refine ze (λht=>?_) (λht=>?_)
  ·obtain⟨ov,nv,hi,hS⟩:=WrO.open hS Xr
   obtain⟨qv,hq,hS⟩:=SnkO.open (k:=s'.k) hS Xr
   obtain⟨rov,rnv,gv,⟨hri,hrg⟩,hS⟩:=RWrO.open hS Xr
   obtain⟨rv,pv,⟨hr,hp⟩,hS⟩:=RSnkO.open (k:=s'.k) hS Xr
   repeat first|refine Gp ?_|refine Gw λw hS=>?_|refine Gb λb w hS=>?_
   (apply zd (YU p.w.gp s'.k.ts t hsm) hS;exact Xp;clear hS)
   rintro u1 post rfl w hS
   (try simp only[app]at hS)
   repeat first|refine Gp ?_|refine Gw λw hS=>?_|refine Gb λb w hS=>?_
   (apply zd (YQ H5 p.r.rp s'.k.ts t hsm) hS;exact Xp;clear hS)
   rintro u2 post rfl w hS
   (try simp only[app]at hS)
   have hcl:=cellsAt_small (t:=(t:Int)) hsm
   obtain⟨H6,h56,hR1,hS⟩:=zz (H:=H5) (v:=u1) hS Xp
   obtain⟨H7,h67,hR2,hS⟩:=zz (H:=H6) (v:=u2) hS Xp
   (apply zd (plain_cell H7 u1 u2 _ _ (hR1.mono h67) hR2 (by omega)) hS;exact Xp;clear hS)
   (rintro v post ⟨rfl,rfl⟩ w hS;(try simp only[app]at hS);(repeat (first|refine Gp ?_|refine Gw λw hS=>?_|refine Gb λb w hS=>?_)))
   rw[decide_eq_true rfl]
   refine zr ?_
   repeat first|refine Gp ?_|refine Gw λw hS=>?_|refine Gb λb w hS=>?_
   have h57:=Heap.le_trans h56 h67
   have hS:=Ref.monoP h57 hS Xr
   have hS:=RDO.monoP h57 hS Xr
   have hS:=SnkO.put (H:=H7) s'.k hS (hq.mono h57) Xp
   have hS:=RSnkO.put (H:=H7) s'.k hS (hr.mono h57) (hp.mono h57) Xp
   have hS:=WrO.put (p:=p.w) (c:=kc) s' hS (hi.mono h57) Xp
   have hS:=RWrO.put (p:=p.r) (c:=kc) s' hS (hri.mono h57) (hrg.mono h57) Xp
   rw[hCB]at hS
   exact⟨⟨t+1,H7,rfl,by omega,Heap.le_trans h45 h57,SL.into hS Xi⟩,by dsimp only;omega⟩
  ·repeat first|refine Gp ?_|refine Gw λw hS=>?_|refine Gb λb w hS=>?_
   rw[hCB]at hS
   exact⟨⟨i+1,lsn',now',H5,s',rfl,by omega,by omega,by omega,by omega,Heap.le_trans h03 (Heap.le_trans h34 h45),hP,SL.into hS Xi⟩,by dsimp only;omega⟩
 ·omega
theorem writerPlays_law(c:PCfg)(l:List O29)(ok:∀o∈l,ok29 o)(cs:Array Value)(v:Value)(w:World)(hc:tCfg.rd w Nob c cs.toList)(hl:RdS t29 w Nob l v):
  Calls Tryz.prog 11 #[.agg cs,v] w λe w'=>e= .returned (.bool true)∧Below w.heap.size w w':=by
 obtain rfl:cs=(encCfg c).toArray:=by rw[← tCfg_rd hc]
 exact (YH (Zp (Heap.of w) c v l (Rd29.of hl) ok)).calls
end Go.Proofs.YtnmhmnnadkclbaaGreat
