/-
  Texts of the proof, joined: Sl7, RqR, RqS, ItemV, DiskS2, DiskS3, DiskS4.
-/
import Derived.Test.YtnmhmnnadkclbaaGreatJ3
import Derived.Lib.SliceRun
import Derived.Test.YtnmhmnnadkclbaaGreatQVcF
namespace Go.Proofs.YtnmhmnnadkclbaaGreat
set_option linter.unusedVariables false
open Go.RowKit
theorem zrow_mod{z:List Value}{n i:Nat}(h:i<n*z.length):(zrow z n)[i]?=z[i % z.length]?:=by
 induction n generalizing i with
 | zero=>omega
 | succ n ih=>
  have e:zrow z (n+1)=z++zrow z n:=by simp[zrow,List.replicate_succ]
  rw[e]
  rw[Nat.add_mul]at h
  by_cases hi:i<z.length
  ·rw[List.getElem?_append_left hi,Nat.mod_eq_of_lt hi]
  ·rw[List.getElem?_append_right (by omega),ih (by omega)]
   congr 1
   conv=>rhs;rw[show i=(i-z.length)+z.length by omega]
   rw[Nat.add_mod_right]
theorem zeroCells_row(zv:Array Value)(z:List Value)(hz:zv.toList=z)(n:Nat):(Builtin.zeroCells zv n).toList=zrow z n:=by
 subst hz
 refine List.ext_getElem? λi=>?_
 by_cases hi:i<n*zv.size
 ·have h0:0<zv.size:=by
   rcases Nat.eq_zero_or_pos zv.size with h|h
   ·rw[h]at hi;omega
   ·exact h
  rw[zrow_mod (by simpa using hi)]
  have hm:i % zv.size<zv.size:=Nat.mod_lt _ h0
  simp[Builtin.zeroCells,hi,hm,getElem!_pos]
 ·have h1:(Builtin.zeroCells zv n).toList.length≤i:=by simp[Builtin.zeroCells];omega
  have h2:(zrow zv.toList n).length≤i:=by rw[zrow_length];simp;omega
  rw[List.getElem?_eq_none h1,List.getElem?_eq_none h2]
section
variable {W w:World} {l l':List Chunk} {P:Program}
theorem Q9{b o sz n j:Nat}{k:IntKind}{K:Value→Prop}(hj:j<n)(h:K (.pointer (some ⟨b,o+j*sz,none⟩))):YS sz n (.pointer (some ⟨b,o,none⟩)) (.int k (j:Int)) K:=
 ⟨_,k,j,rfl,rfl,hj,by rw[Addr.add_lit];exact h⟩
end
set_option maxRecDepth 100000
theorem yK(H:Heap)(v:Value)(L:List Rq)(hv:RdRq H v L)(hn:L.length≤140737488351232):
  SP 208 [v] [.mem H] (λu post=>∃q:Bool,u= .bool q∧(q=true↔MayP L)∧post=[.mem H]):=by
 intro W F w hS;apply vc208;unfold Vc208;(try simp only[app]at hS)
 have hno:∀{w:World} {l:List Chunk},¬MayP L→SL W (.mem H::F) w→∃post,(∃q:Bool,(.bool false:Value)= .bool q∧(q=true↔MayP L)∧post=[.mem H])∧SL W (app post F) w:=λh hS=>
  ⟨_,⟨false,rfl,⟨λe=>(by cases e),λe=>absurd e h⟩,rfl⟩,hS⟩
 refine zq hv ?_
 repeat first|refine Gp ?_|refine Gw λw hS=>?_|refine Gb λb w hS=>?_
 refine ze (λh=>hno (l:=[]) (λhp=>by have:=hp.1;omega) hS) (λh64=>?_)
 refine⟨λus w=>∃i:Nat,us=[.int .i64 i]∧i≤L.length∧(∀j,j<i→OneP L j)∧SL W (.mem H::F) w,
  λus _=>match us with|[.int _ i]=>(L.length-i).toNat|_=>0,⟨0,rfl,by omega,λj h=>by omega,SL.into hS Xi⟩,?_⟩
 clear hS
 rintro v3 w ⟨i,hus,hi,hall,hS⟩
 cases hus
 refine zq hv ?_
 repeat first|refine Gp ?_|refine Gw λw hS=>?_|refine Gb λb w hS=>?_
 refine ze (λh=>?_) (λh=>?_)
 ·have hil:i<L.length:=by omega
  have hbad:∀{w:World},¬OneP L i→SL W (.mem H::F) w→∃post,(∃q:Bool,(.bool false:Value)= .bool q∧(q=true↔MayP L)∧post=[.mem H])∧SL W (app post F) w:=λh hS=>hno (l:=[]) (λhp=>h (hp.2 i)) hS
  have hone:okRq i L[i]→(∀h0:0<i,L[i-1].at_≤L[i].at_)→(∀k (hk:k<i),¬(L[k].table=L[i].table∧L[k].done=false))→OneP L i:=λh1 h2 h3 _=>⟨h1,h2,h3⟩
  have hun:OneP L i→okRq i L[i]∧(∀h0:0<i,L[i-1].at_≤L[i].at_)∧∀k (hk:k<i),¬(L[k].table=L[i].table∧L[k].done=false):=λh=>h hil
  refine zH hS Xh encRq_len hv (x:=L[i]) (by simp[hil]) hil ?_
  refine zJ hS ?_
  clear hS;intro b w hS
  refine zP (vs:=encRq L[i]) hS .hd rfl rfl (encRq_one _) ?_
  clear hS;intro w hS
  have hLi:L[i]?=some L[i]:=List.getElem?_eq_getElem hil
  generalize hr:L[i]=r at *
  obtain⟨rid,rt,rw_,rat,rcur,rch,rd⟩:=r
  unfold encRq at hS
  simp only at hS
  unfold okRq at hone hun
  simp only at hone hun
  refine⟨λus w=>us=[]∧rid=(i:Int)+1∧0≤rt∧rt<8∧1≤rw_∧rw_≤8∧1≤rat∧rat≤1099511627776∧(∀h0:0<i,L[i-1].at_≤rat)∧SL W (.pt b [.int .i64 rid,.int .i64 rt,.int .i64 rw_,.int .i64 rat,.int .i64 rcur,.int .i64 rch,.bool rd] 89::.mem H::F) w,?_,?_⟩
  ·repeat first|refine Gp ?_|refine Gw λw hS=>?_|refine Gb λb w hS=>?_
   refine ze (λc1=>hbad (λhp=>by have:=(hun hp).1.1;omega) (SL.into hS Xi)) (λc1=>?_)
   repeat first|refine Gp ?_|refine Gw λw hS=>?_|refine Gb λb w hS=>?_
   refine ze (λc2=>hbad (λhp=>by have:=(hun hp).1.2.1;omega) (SL.into hS Xi)) (λc2=>?_)
   repeat first|refine Gp ?_|refine Gw λw hS=>?_|refine Gb λb w hS=>?_
   refine ze (λc3=>hbad (λhp=>by have:=(hun hp).1.2.2.1;omega) (SL.into hS Xi)) (λc3=>?_)
   repeat first|refine Gp ?_|refine Gw λw hS=>?_|refine Gb λb w hS=>?_
   refine ze (λc4=>hbad (λhp=>by have:=(hun hp).1.2.2.2.1;omega) (SL.into hS Xi)) (λc4=>?_)
   repeat first|refine Gp ?_|refine Gw λw hS=>?_|refine Gb λb w hS=>?_
   refine ze (λc5=>hbad (λhp=>by have:=(hun hp).1.2.2.2.2.1;omega) (SL.into hS Xi)) (λc5=>?_)
   repeat first|refine Gp ?_|refine Gw λw hS=>?_|refine Gb λb w hS=>?_
   refine ze (λc6=>hbad (λhp=>by have:=(hun hp).1.2.2.2.2.2.1;omega) (SL.into hS Xi)) (λc6=>?_)
   repeat first|refine Gp ?_|refine Gw λw hS=>?_|refine Gb λb w hS=>?_
   refine ze (λc7=>hbad (λhp=>by have:=(hun hp).1.2.2.2.2.2.2.1;omega) (SL.into hS Xi)) (λc7=>?_)
   repeat first|refine Gp ?_|refine Gw λw hS=>?_|refine Gb λb w hS=>?_
   refine ze (λc8=>?_) (λc8=>?_)
   ·have hi1:i-1<L.length:=by omega
    have e1:(i:Int)-1=((i-1:Nat):Int):=by omega
    repeat first|refine Gp ?_|refine Gw λw hS=>?_|refine Gb λb w hS=>?_
    rw[e1]
    refine zY hS Xh encRq_len hv (x:=L[i-1]) (by simp[hi1]) hi1 (i:=3) rfl ?_
    repeat first|refine Gp ?_|refine Gw λw hS=>?_|refine Gb λb w hS=>?_
    refine ze (λc9=>hbad (λhp=>by have:=(hun hp).2.1 (by omega);omega) (SL.into hS Xi)) (λc9=>?_)
    exact⟨rfl,by omega,by omega,by omega,by omega,by omega,by omega,by omega,λ_=>by omega,SL.into hS Xi⟩
   ·exact⟨rfl,by omega,by omega,by omega,by omega,by omega,by omega,by omega,λh=>by omega,SL.into hS Xi⟩
  ·clear hS
   rintro w ⟨-,c1,c2,c3,c4,c5,c6,c7,c8,hS⟩
   repeat first|refine Gp ?_|refine Gw λw hS=>?_|refine Gb λb w hS=>?_
   refine ze (λd=>hbad (λhp=>by have:=(hun hp).1;omega) (SL.into hS Xi)) (λd1=>?_)
   repeat first|refine Gp ?_|refine Gw λw hS=>?_|refine Gb λb w hS=>?_
   refine ze (λd=>hbad (λhp=>by have:=(hun hp).1;omega) (SL.into hS Xi)) (λd2=>?_)
   repeat first|refine Gp ?_|refine Gw λw hS=>?_|refine Gb λb w hS=>?_
   refine ze (λd=>hbad (λhp=>by have:=(hun hp).1;omega) (SL.into hS Xi)) (λd3=>?_)
   repeat first|refine Gp ?_|refine Gw λw hS=>?_|refine Gb λb w hS=>?_
   refine ze (λd=>hbad (λhp=>by have:=(hun hp).1;omega) (SL.into hS Xi)) (λd4=>?_)
   refine⟨λus w=>∃k:Nat,us=[.int .i64 k]∧k≤i∧(∀j (hj:j<k) (hl:j<L.length),¬(L[j].table=rt∧L[j].done=false))∧SL W (.pt b [.int .i64 rid,.int .i64 rt,.int .i64 rw_,.int .i64 rat,.int .i64 rcur,.int .i64 rch,.bool rd] 89::.mem H::F) w,
    λus _=>match us with|[.int _ k]=>(i-k).toNat|_=>0,⟨0,rfl,by omega,λj h=>by omega,hS⟩,?_⟩
   clear hS
   rintro v5 w ⟨k,hus,hk,hkk,hS⟩
   cases hus
   repeat first|refine Gp ?_|refine Gw λw hS=>?_|refine Gb λb w hS=>?_
   refine ze (λhki=>?_) (λhki=>?_)
   ·have hk1:k<i:=by omega
    have hkl:k<L.length:=by omega
    repeat first|refine Gp ?_|refine Gw λw hS=>?_|refine Gb λb w hS=>?_
    refine zY hS Xh encRq_len hv (x:=L[k]) (by simp[hkl]) hkl (i:=1) rfl ?_
    repeat first|refine Gp ?_|refine Gw λw hS=>?_|refine Gb λb w hS=>?_
    refine ze (λht=>?_) (λht=>?_)
    ·refine zY hS Xh encRq_len hv (x:=L[k]) (by simp[hkl]) hkl (i:=6) rfl ?_
     repeat first|refine Gp ?_|refine Gw λw hS=>?_|refine Gb λb w hS=>?_
     refine zK (λhd=>?_) (λhd=>?_)
     ·exact hbad (λhp=>(hun hp).2.2 k hk1 ⟨ht,hd⟩) (SL.into hS Xi)
     ·repeat first|refine Gp ?_|refine Gw λw hS=>?_|refine Gb λb w hS=>?_
      refine⟨⟨k+1,by simp,by omega,λj h1 h2=>?_,hS⟩,by dsimp only;omega⟩
      by_cases e:j=k
      ·subst e;rintro ⟨_,h3⟩;rw[hd]at h3;cases h3
      ·exact hkk j (by omega) h2
    ·repeat first|refine Gp ?_|refine Gw λw hS=>?_|refine Gb λb w hS=>?_
     refine⟨⟨k+1,by simp,by omega,λj h1 h2=>?_,hS⟩,by dsimp only;omega⟩
     by_cases e:j=k
     ·subst e;rintro ⟨h3,_⟩;exact ht h3
     ·exact hkk j (by omega) h2
   ·have hki:k=i:=by omega
    subst hki
    repeat first|refine Gp ?_|refine Gw λw hS=>?_|refine Gb λb w hS=>?_
    refine⟨⟨k+1,by simp,by omega,λj h1=>?_,SL.into hS Xi⟩,by dsimp only;omega⟩
    by_cases e:j=k
    ·subst e;exact hone ⟨c1,c2,c3,c4,c5,c6,c7,by omega,by omega,by omega,by omega⟩ c8 λk' hk'=>hkk k' hk' (by omega)
    ·exact hall j (by omega)
 ·have hie:i=L.length:=by omega
  subst hie
  refine⟨_,⟨true,rfl,⟨λ_=>⟨by omega,λj hj=>?_⟩,λ_=>rfl⟩,rfl⟩,SL.into hS Xi⟩
  exact hall j hj hj
def RqAnsO(H:Heap)(u:Value)(post:List Chunk)(o:Option (List Rq)):Prop:=∃H',H.le H'∧post=[.mem H']∧match o with
 | none=>u= .tuple #[.slice none 0 0,.bool false]
 | some L'=>∃x,u= .tuple #[x,.bool true]∧RdRq H' x L'
theorem Yy(H:Heap)(v:Value)(L:List Rq)(table weight at_:Int)(hv:RdRq H v L)(hn:L.length≤1000):
  SP 161 [v,.int .i64 table,.int .i64 weight,.int .i64 at_] [.mem H] (λu post=>RqAnsO H u post (acceptR L table weight at_)):=by
 intro W F w hS;apply vc161;unfold Vc161;(try simp only[app]at hS)
 repeat first|refine Gp ?_|refine Gw λw hS=>?_|refine Gb λb w hS=>?_
 have hS:=OwnSl.full (n:=0) (sz:=7) rfl hS
 refine zw (n:=0) (m:=L.length) hS .hd (src_rd hS Xh hv) (flat_len encRq_len L) rfl (rqs_one L) (by omega) (by omega) ?_
 clear hS;intro v1 w hS
 rw[Nat.zero_add,List.nil_append]at hS
 refine zq hv ?_
 repeat first|refine Gp ?_|refine Gw λw hS=>?_|refine Gb λb w hS=>?_
 refine zw (n:=L.length) (m:=1) (cells:=(L.map encRq).flatten) hS Xr (src_pt0 (cs:=encRq ⟨((L.length+1:Nat):Int),table,weight,at_,0,0,false⟩) hS .hd rfl) rfl rfl (encRq_one _) (by omega) (by omega) ?_
 clear hS;intro v2 w hS
 rw[← flat_snoc]at hS
 obtain⟨H1,h01,hR1,hS⟩:=zz (H:=H) (v:=v2) (n:=L.length+1) (sz:=7) (t:=89) (cells:=((L++[(⟨((L.length+1:Nat):Int),table,weight,at_,0,0,false⟩:Rq)]).map encRq).flatten) hS Xp
 have hlen:(L++[(⟨((L.length+1:Nat):Int),table,weight,at_,0,0,false⟩:Rq)]).length=L.length+1:=by simp
 have hR1:RdRq H1 v2 (L++[(⟨((L.length+1:Nat):Int),table,weight,at_,0,0,false⟩:Rq)]):=by unfold RdRq;rw[hlen];exact hR1
 have hN:newRq L table weight at_=⟨((L.length+1:Nat):Int),table,weight,at_,0,0,false⟩:=rfl
 unfold acceptR
 rw[hN]
 generalize hL2:L++[(⟨((L.length+1:Nat):Int),table,weight,at_,0,0,false⟩:Rq)]=L2 at hR1 hlen ⊢
 (apply zd (yK H1 v L (hv.mono h01) (by omega)) hS;exact Xp;clear hS)
 rintro _ post ⟨q1,rfl,hq1,rfl⟩ w hS
 (try simp only[app]at hS)
 repeat first|refine Gp ?_|refine Gw λw hS=>?_|refine Gb λb w hS=>?_
 refine zK (λhe=>?_) (λhe=>?_)
 ·rw[if_neg λh=>by rw[hq1.2 h.1]at he;cases he]
  exact⟨_,⟨H1,h01,rfl,rfl⟩,SL.into hS Xi⟩
 ·(apply zd (yK H1 v2 L2 hR1 (by omega)) hS;exact Xp;clear hS)
  rintro _ post ⟨q2,rfl,hq2,rfl⟩ w hS
  (try simp only[app]at hS)
  repeat first|refine Gp ?_|refine Gw λw hS=>?_|refine Gb λb w hS=>?_
  refine zK (λhe2=>?_) (λhe2=>?_)
  ·rw[if_neg λh=>by rw[hq2.2 h.2]at he2;cases he2]
   exact⟨_,⟨H1,h01,rfl,rfl⟩,SL.into hS Xi⟩
  ·rw[if_pos ⟨hq1.1 he,hq2.1 he2⟩]
   exact⟨_,⟨H1,h01,rfl,v2,rfl,hR1⟩,SL.into hS Xi⟩
theorem Y6(H:Heap)(v:Value)(L:List Rq)(id cursor:Int)(dn:Bool)(hv:RdRq H v L)(hn:L.length≤1000)(hid : -9223372036854775808≤id∧id≤9223372036854775807):
  SP 162 [v,.int .i64 id,.int .i64 cursor,.bool dn] [.mem H] (λu post=>RqAnsO H u post (chunkR L id cursor dn)):=by
 intro W F w hS;apply vc162;unfold Vc162;(try simp only[app]at hS)
 have hno:∀{w:World},chunkR L id cursor dn=none→SL W (.mem H::F) w→∃post,RqAnsO H (.tuple #[.slice none 0 0,.bool false]) post (chunkR L id cursor dn)∧SL W (app post F) w:=λe hS=>⟨_,⟨H,Heap.le_refl H,rfl,by rw[e]⟩,hS⟩
 (apply zd (yK H v L hv (by omega)) hS;exact Xp;clear hS)
 rintro _ post ⟨q1,rfl,hq1,rfl⟩ w hS
 (try simp only[app]at hS)
 repeat first|refine Gp ?_|refine Gw λw hS=>?_|refine Gb λb w hS=>?_
 refine zK (λhe=>hno (chunkR_no λh=>by rw[hq1.2 h.1]at he;cases he) (SL.into hS Xi)) (λhe=>?_)
 have hM:=hq1.1 he
 repeat first|refine Gp ?_|refine Gw λw hS=>?_|refine Gb λb w hS=>?_
 refine ze (λh=>hno (chunkR_no (by omega)) (SL.into hS Xi)) (λh1=>?_)
 refine zq hv ?_
 repeat first|refine Gp ?_|refine Gw λw hS=>?_|refine Gb λb w hS=>?_
 refine ze (λh=>hno (chunkR_no (by omega)) (SL.into hS Xi)) (λh2=>?_)
 obtain⟨j,rfl⟩:∃j:Nat,id=((j+1:Nat):Int):=⟨(id-1).toNat,by omega⟩
 have hj:j<L.length:=by omega
 have ej:((j+1:Nat):Int)-1=(j:Int):=by omega
 repeat first|refine Gp ?_|refine Gw λw hS=>?_|refine Gb λb w hS=>?_
 rw[ej]
 refine zH hS Xh encRq_len hv (x:=L[j]) (by simp[hj]) hj ?_
 refine zJ hS ?_
 clear hS;intro b w hS
 refine zP (vs:=encRq L[j]) hS .hd rfl rfl (encRq_one _) ?_
 clear hS;intro w hS
 have hok:=(hM.2 j hj).1
 have hcr:=chunkR_at hM hj cursor dn
 generalize hr:L[j]=r at *
 obtain⟨rid,rt,rw_,rat,rcur,rch,rd⟩:=r
 unfold encRq at hS
 simp only at hS
 unfold okRq at hok
 simp only at hok
 repeat first|refine Gp ?_|refine Gw λw hS=>?_|refine Gb λb w hS=>?_
 refine yO (λh=>hno (by rw[hcr,if_pos (.inl h)]) (SL.into hS Xi)) (λh3=>?_)
 repeat first|refine Gp ?_|refine Gw λw hS=>?_|refine Gb λb w hS=>?_
 refine ze (λh=>hno (by rw[hcr,if_pos (.inr (.inl h))]) (SL.into hS Xi)) (λh4=>?_)
 repeat first|refine Gp ?_|refine Gw λw hS=>?_|refine Gb λb w hS=>?_
 refine ze (λh=>hno (by rw[hcr,if_pos (.inr (.inr (.inl h)))]) (SL.into hS Xi)) (λh5=>?_)
 repeat first|refine Gp ?_|refine Gw λw hS=>?_|refine Gb λb w hS=>?_
 refine ze (λh=>hno (by rw[hcr,if_pos (.inr (.inr (.inr (by simp only;omega))))]) (SL.into hS Xi)) (λh6=>?_)
 repeat first|refine Gp ?_|refine Gw λw hS=>?_|refine Gb λb w hS=>?_
 have hS:=OwnSl.full (n:=0) (sz:=7) rfl hS
 refine zw (n:=0) (m:=L.length) hS .hd (src_rd hS Xh hv) (flat_len encRq_len L) rfl (rqs_one L) (by omega) (by omega) ?_
 clear hS;intro v1 w hS
 rw[Nat.zero_add,List.nil_append]at hS
 repeat first|refine Gp ?_|refine Gw λw hS=>?_|refine Gb λb w hS=>?_
 rcases OwnSl.open hS with ⟨_,h0,_⟩|⟨ob,cap,rest,rfl,hc,hl,hrest,hS⟩
 ·omega
 rw[ej]
 repeat first|refine Gp ?_|refine Gw λw hS=>?_|refine Gb λb w hS=>?_
 refine zC hj ?_
 refine YZ (vs:=encRq ⟨rid,rt,rw_,rat,cursor,rch+1,dn⟩) hS Xu rfl (by rw[List.length_append,hl];omega) (encRq_one _) ?_
 clear hS;intro w hS
 have e:((L.map encRq).flatten++rest).take (0+j*7)++encRq ⟨rid,rt,rw_,rat,cursor,rch+1,dn⟩++((L.map encRq).flatten++rest).drop (0+j*7+7)=((L.set j ⟨rid,rt,rw_,rat,cursor,rch+1,dn⟩).map encRq).flatten++rest:=by
  have hl':(L.map encRq).flatten.length=L.length*7:=hl
  rw[Nat.zero_add,List.take_append_of_le_length (by rw[hl'];omega),flat_take_n encRq_len]
  rw[show j*7+7=(j+1)*7 by omega,List.drop_append_of_le_length (by rw[hl'];omega),flat_drop_n encRq_len]
  rw[List.set_eq_take_append_cons_drop,if_pos hj]
  simp
 rw[e]at hS
 have hS:=OwnSl.mk (n:=L.length) (cap:=cap) (sz:=7) (rest:=rest) hc (by rw[flat_len encRq_len,List.length_set]) hrest hS
 obtain⟨H1,h01,hR1,hS⟩:=zz (H:=H) (v:=.slice (some ⟨ob,0,none⟩) L.length cap) (n:=L.length) (sz:=7) (t:=89) (cells:=((L.set j ⟨rid,rt,rw_,rat,cursor,rch+1,dn⟩).map encRq).flatten) hS Xp
 have hsl:(L.set j (⟨rid,rt,rw_,rat,cursor,rch+1,dn⟩:Rq)).length=L.length:=List.length_set
 rw[hcr,if_neg (by rintro (h|h|h|h);exact absurd h (by rw[h3];exact Bool.false_ne_true);exact h4 h;exact h5 h;simp only at h;omega)]
 exact⟨_,⟨H1,h01,rfl,_,rfl,by unfold RdRq;rw[hsl];exact hR1⟩,SL.into hS Xi⟩
def OneQ(r:Rq)(a:Int):Prop:=0≤r.table∧r.table<8∧1≤r.weight∧r.weight≤8∧max a 1≤r.at_∧r.at_≤1099511627776∧0≤r.cursor∧r.cursor≤1099511627776∧0≤r.chunks∧r.chunks≤1099511627776
theorem Q3(r:Rq)(a:Int):SP 293 [agg (encRq r),.int .i64 a] [] (λv post=>∃q:Bool,v= .bool q∧(q=true↔OneQ r a)∧post=[]):=by
 intro W F w hS;apply vc293;unfold Vc293;(try simp only[app]at hS)
 obtain⟨rid,rt,rw_,rat,rcur,rch,rd⟩:=r
 unfold encRq OneQ
 simp only
 refine⟨_,rfl,zJ hS ?_⟩
 clear hS;intro b w hS
 have hno:∀{w:World},¬(0≤rt∧rt<8∧1≤rw_∧rw_≤8∧max a 1≤rat∧rat≤1099511627776∧0≤rcur∧rcur≤1099511627776∧0≤rch∧rch≤1099511627776)→SL W F w→∃post,(∃q:Bool,(.bool false:Value)= .bool q∧(q=true↔0≤rt∧rt<8∧1≤rw_∧rw_≤8∧max a 1≤rat∧rat≤1099511627776∧0≤rcur∧rcur≤1099511627776∧0≤rch∧rch≤1099511627776)∧post=[])∧SL W (app post F) w:=λh hS=>⟨_,⟨false,rfl,⟨λe=>(by cases e),λe=>absurd e h⟩,rfl⟩,hS⟩
 repeat first|refine Gp ?_|refine Gw λw hS=>?_|refine Gb λb w hS=>?_
 refine ze (λc1=>?_) (λc=>hno (by omega) (SL.into hS Xi))
 repeat first|refine Gp ?_|refine Gw λw hS=>?_|refine Gb λb w hS=>?_
 refine ze (λc2=>?_) (λc=>hno (by omega) (SL.into hS Xi))
 repeat first|refine Gp ?_|refine Gw λw hS=>?_|refine Gb λb w hS=>?_
 refine ze (λc3=>?_) (λc=>hno (by omega) (SL.into hS Xi))
 repeat first|refine Gp ?_|refine Gw λw hS=>?_|refine Gb λb w hS=>?_
 refine ze (λc4=>?_) (λc=>hno (by omega) (SL.into hS Xi))
 repeat first|refine Gp ?_|refine Gw λw hS=>?_|refine Gb λb w hS=>?_
 refine ze (λc5=>?_) (λc=>hno (by omega) (SL.into hS Xi))
 repeat first|refine Gp ?_|refine Gw λw hS=>?_|refine Gb λb w hS=>?_
 refine ze (λc6=>?_) (λc=>hno (by omega) (SL.into hS Xi))
 repeat first|refine Gp ?_|refine Gw λw hS=>?_|refine Gb λb w hS=>?_
 refine ze (λc7=>?_) (λc=>hno (by omega) (SL.into hS Xi))
 repeat first|refine Gp ?_|refine Gw λw hS=>?_|refine Gb λb w hS=>?_
 refine ze (λc8=>?_) (λc=>hno (by omega) (SL.into hS Xi))
 repeat first|refine Gp ?_|refine Gw λw hS=>?_|refine Gb λb w hS=>?_
 refine ze (λc9=>?_) (λc=>hno (by omega) (SL.into hS Xi))
 repeat first|refine Gp ?_|refine Gw λw hS=>?_|refine Gb λb w hS=>?_
 refine⟨_,⟨_,rfl,?_,rfl⟩,SL.into hS Xi⟩
 rw[decide_eq_true_eq]
 exact⟨λc=>⟨c1,c2,c3,c4,c5,c6,c7,c8,c9,c⟩,λc=>c.2.2.2.2.2.2.2.2.2⟩
def openB(L:List Rq)(i t:Nat):Bool:=(L.take i).any λr=>decide (r.table=(t:Int)) && !r.done
theorem openB_iff{L:List Rq}{i t:Nat}:openB L i t=true↔∃k,∃h:k<L.length,k<i∧L[k].table=(t:Int)∧L[k].done=false:=by
 unfold openB
 rw[List.any_eq_true]
 constructor
 ·rintro ⟨r,hr,hx⟩
  obtain⟨k,hk,rfl⟩:=List.mem_iff_getElem.1 hr
  rw[List.length_take]at hk
  refine⟨k,by omega,by omega,?_⟩
  simpa using hx
 ·rintro ⟨k,h,hk,h1,h2⟩
  refine⟨L[k],List.mem_iff_getElem.2 ⟨k,by rw[List.length_take];omega,by simp⟩,by simp[h1,h2]⟩
def openC(L:List Rq)(i:Nat):List Value:=(List.range 8).map λt=>.bool (openB L i t)
theorem openC_at(L:List Rq)(i:Nat){t:Nat}(h:t<8){o:Nat}(ho:o=t):(openC L i)[o]?=some (.bool (openB L i t)):=by
 subst ho;unfold openC;simp[h]
theorem openC_set{L:List Rq}{i t:Nat}(hi:i<L.length)(ht:L[i].table=(t:Int))(h:openB L i t=false){o:Nat}(ho:o=t):(openC L i).set o (.bool !L[i].done)=openC L (i+1):=by
 subst ho
 unfold openC
 refine List.ext_getElem (by simp) λj h1 h2=>?_
 have hj:j<8:=by simpa using h2
 rw[List.getElem_set]
 have hs:∀t:Nat,openB L (i+1) t=(openB L i t || (decide (L[i].table=(t:Int)) && !L[i].done)):=λt=>by
  unfold openB
  rw[List.take_succ_eq_append_getElem hi,List.any_append];simp
 split
 ·rename_i e;subst e
  simp only[List.getElem_map,List.getElem_range]
  rw[hs,h,ht];simp
 ·rename_i e
  simp only[List.getElem_map,List.getElem_range]
  rw[hs,ht]
  have:¬((o:Int)=(j:Int)):=by omega
  simp[this]
theorem openC_zero(L:List Rq):openC L 0=[.bool false,.bool false,.bool false,.bool false,.bool false,.bool false,.bool false,.bool false]:=by
 simp[openC,openB,List.range,List.range.loop]
def aheadR(L:List Rq)(i:Nat):Int:=if i=0 then 0 else (L[i-1]?.map (·.at_)).getD 0
theorem Qq(H:Heap)(v:Value)(L:List Rq)(hv:RdRq H v L)(hn:L.length≤140737488351232):
  SP 273 [v] [.mem H] (λu post=>∃q:Bool,u= .bool q∧(q=true↔MayP L)∧post=[.mem H]):=by
 intro W F w hS;apply vc273;unfold Vc273;(try simp only[app]at hS)
 have hno:∀{w:World},¬MayP L→SL W (.mem H::F) w→∃post,(∃q:Bool,(.bool false:Value)= .bool q∧(q=true↔MayP L)∧post=[.mem H])∧SL W (app post F) w:=λh hS=>
  ⟨_,⟨false,rfl,⟨λe=>(by cases e),λe=>absurd e h⟩,rfl⟩,hS⟩
 refine zJ hS ?_
 clear hS;intro ob w hS
 refine zq hv ?_
 rw[← openC_zero L]at hS
 refine⟨λus w=>∃i:Nat,us=[.int .i64 (aheadR L i),.int .i64 i]∧i≤L.length∧(∀j,j<i→OneP L j)∧SL W (.pt ob (openC L i) 379::.mem H::F) w,
  λus _=>match us with|[_,.int _ i]=>(L.length-i).toNat|_=>0,⟨0,rfl,by omega,λj h=>by omega,SL.into hS Xi⟩,?_⟩
 clear hS
 rintro v4 v9 w ⟨i,hus,hi,hall,hS⟩
 cases hus
 repeat first|refine Gp ?_|refine Gw λw hS=>?_|refine Gb λb w hS=>?_
 refine ze (λh=>?_) (λh=>?_)
 ·have hil:i<L.length:=by omega
  have hbad:∀{w:World},¬OneP L i→SL W (.mem H::F) w→∃post,(∃q:Bool,(.bool false:Value)= .bool q∧(q=true↔MayP L)∧post=[.mem H])∧SL W (app post F) w:=λh hS=>hno (λhp=>h (hp.2 i)) hS
  refine zH hS Xh encRq_len hv (x:=L[i]) (by simp[hil]) hil ?_
  refine zJ hS ?_
  clear hS;intro b w hS
  refine zP (vs:=encRq L[i]) hS .hd rfl rfl (encRq_one _) ?_
  clear hS;intro w hS
  have hun:OneP L i→okRq i L[i]∧(∀h0:0<i,L[i-1].at_≤L[i].at_)∧∀k (hk:k<i),¬(L[k].table=L[i].table∧L[k].done=false):=λh=>h hil
  have hah:max (aheadR L i) 1≤L[i].at_↔1≤L[i].at_∧∀h0:0<i,L[i-1].at_≤L[i].at_:=by
   unfold aheadR
   by_cases h0:i=0
   ·rw[if_pos h0];exact⟨λe=>⟨by omega,λh=>by omega⟩,λe=>by have:=e.1;omega⟩
   ·rw[if_neg h0,List.getElem?_eq_getElem (by omega)]
    simp only[Option.map_some,Option.getD_some]
    exact⟨λe=>⟨by omega,λ_=>by omega⟩,λe=>by have:=e.1;have:=e.2 (by omega);omega⟩
  unfold encRq at hS
  repeat first|refine Gp ?_|refine Gw λw hS=>?_|refine Gb λb w hS=>?_
  refine ze (λc=>hbad (λhp=>by have:=(hun hp).1.1;omega) (SL.into hS Xi)) (λc1=>?_)
  refine zA hS Xh rfl ?_
  (apply zd (Q3 L[i] (aheadR L i)) hS;exact Xp;clear hS)
  rintro _ post ⟨q1,rfl,hq1,rfl⟩ w hS
  (try simp only[app]at hS)
  repeat first|refine Gp ?_|refine Gw λw hS=>?_|refine Gb λb w hS=>?_
  refine zK (λhe=>hbad (λhp=>?_) (SL.into hS Xi)) (λhe=>?_)
  ·have hp:=hun hp
   have h1:OneQ L[i] (aheadR L i):=⟨hp.1.2.1,hp.1.2.2.1,hp.1.2.2.2.1,hp.1.2.2.2.2.1,hah.2 ⟨hp.1.2.2.2.2.2.1,hp.2.1⟩,hp.1.2.2.2.2.2.2.1,hp.1.2.2.2.2.2.2.2.1,hp.1.2.2.2.2.2.2.2.2.1,hp.1.2.2.2.2.2.2.2.2.2.1,hp.1.2.2.2.2.2.2.2.2.2.2⟩
   rw[hq1.2 h1]at he;cases he
  ·have hQ:=hq1.1 he
   have hat:=hah.1 hQ.2.2.2.2.1
   obtain⟨t,ht⟩:∃t:Nat,L[i].table=(t:Int):=⟨L[i].table.toNat,by have:=hQ.1;omega⟩
   have ht8:t<8:=by have:=hQ.2.1;omega
   have htv:Value.int .i64 L[i].table= .int .i64 (t:Int):=by rw[ht]
   repeat first|refine Gp ?_|refine Gw λw hS=>?_|refine Gb λb w hS=>?_
   rw[htv]at hS ⊢
   refine Q9 ht8 (zS hS Xh (openC_at L i ht8 (by omega)) ?_)
   refine yO (λho=>hbad (λhp=>?_) (SL.into hS Xi)) (λho=>?_)
   ·obtain⟨k,hk,hki,h1,h2⟩:=openB_iff.1 ho
    exact (hun hp).2.2 k hki ⟨by rw[h1,ht],h2⟩
   ·repeat first|refine Gp ?_|refine Gw λw hS=>?_|refine Gb λb w hS=>?_
    refine Q9 ht8 ?_
    refine yW hS Xu (openC_at L i ht8 (by omega)) rfl ?_
    clear hS;intro w hS
    rw[openC_set hil ht ho (by omega)]at hS
    repeat first|refine Gp ?_|refine Gw λw hS=>?_|refine Gb λb w hS=>?_
    have ea:aheadR L (i+1)=L[i].at_:=by
     unfold aheadR;rw[if_neg (by omega),Nat.add_sub_cancel,List.getElem?_eq_getElem hil];rfl
    refine⟨⟨i+1,by rw[ea],by omega,λj hj=>?_,SL.into hS Xi⟩,by dsimp only;omega⟩
    by_cases e:j=i
    ·subst e
     refine λ_=>⟨⟨by omega,hQ.1,hQ.2.1,hQ.2.2.1,hQ.2.2.2.1,hat.1,hQ.2.2.2.2.2.1,hQ.2.2.2.2.2.2.1,hQ.2.2.2.2.2.2.2.1,hQ.2.2.2.2.2.2.2.2.1,hQ.2.2.2.2.2.2.2.2.2⟩,hat.2,λk hk hx=>?_⟩
     have:=openB_iff.2 ⟨k,by omega,hk,by rw[hx.1,ht],hx.2⟩
     rw[ho]at this;cases this
    ·exact hall j (by omega)
 ·have hie:i=L.length:=by omega
  subst hie
  refine zq hv ?_
  repeat first|refine Gp ?_|refine Gw λw hS=>?_|refine Gb λb w hS=>?_
  refine⟨_,⟨_,rfl,?_,rfl⟩,SL.into hS Xi⟩
  rw[decide_eq_true_eq]
  exact⟨λh=>⟨by omega,λj hj=>hall j hj hj⟩,λhp=>by have:=hp.1;omega⟩
theorem ZN(H:Heap)(v:Value)(L:List Rq)(hv:RdRq H v L)(hn:L.length≤140737488351232):
  SP 251 [v] [.mem H] (λu post=>∃q:Bool,u= .bool q∧(q=true↔MayP L)∧post=[.mem H]):=by
 intro W F w hS;apply vc251;unfold Vc251;(try simp only[app]at hS)
 (apply zd (Qq H v L hv hn) hS;exact Xp;clear hS)
 rintro _ post ⟨q,rfl,hq,rfl⟩ w hS
 (try simp only[app]at hS)
 exact⟨_,⟨q,rfl,hq,rfl⟩,SL.into hS Xi⟩
def placeB(L:List Rq)(id:Int):Bool:=decide (1≤id∧id≤L.length) && (match L[(id-1).toNat]? with|some r=>!r.done|none=>false)
theorem s_subw{a b:Int}{K:Value→Prop}(h:K (.int .i64 (IntKind.i64.wrap (a-b)))):zc .sub (.int .i64 a) (.int .i64 b) K:=⟨_,rfl,h⟩
theorem wrap_in{n:Int}(h : -9223372036854775808≤n∧n≤9223372036854775807):IntKind.i64.wrap n=n:=IntWalk.i64_in _ h
theorem qM(H:Heap)(v:Value)(L:List Rq)(id:Int)(hv:RdRq H v L)(hn:L.length≤1000)(hid : -9223372036854775808≤id∧id≤9223372036854775807):
  SP 250 [v,.int .i64 id] [.mem H] (Gives (.tuple #[.int .i64 (IntKind.i64.wrap (id-1)),.bool (placeB L id)]) [.mem H]):=by
 intro W F w hS;apply vc250;unfold Vc250;(try simp only[app]at hS)
 repeat first|refine Gp ?_|refine Gw λw hS=>?_|refine Gb λb w hS=>?_
 refine s_subw ?_
 repeat first|refine Gp ?_|refine Gw λw hS=>?_|refine Gb λb w hS=>?_
 refine ze (λh1=>?_) (λh1=>?_)
 ·refine zq hv ?_
  repeat first|refine Gp ?_|refine Gw λw hS=>?_|refine Gb λb w hS=>?_
  refine ze (λh2=>?_) (λh2=>?_)
  ·obtain⟨j,rfl⟩:∃j:Nat,id=((j+1:Nat):Int):=⟨(id-1).toNat,by omega⟩
   have hj:j<L.length:=by omega
   have ej:((j+1:Nat):Int)-1=(j:Int):=by omega
   have hp:placeB L ((j+1:Nat):Int) = !L[j].done:=by
    unfold placeB
    rw[decide_eq_true (by omega),show (((j+1:Nat):Int)-1).toNat=j by omega,List.getElem?_eq_getElem hj];rfl
   rw[hp,wrap_in (by omega),ej]
   repeat first|refine Gp ?_|refine Gw λw hS=>?_|refine Gb λb w hS=>?_
   rw[ej]
   have hd:=flat_at encRq_len L j 6 L[j] (.bool L[j].done) (by simp[hj]) rfl
   refine ZL hv hj λb o hb=>zW (Qj hS Xh (hb 6 _ (by decide) hd) ?_)
   repeat first|refine Gp ?_|refine Gw λw hS=>?_|refine Gb λb w hS=>?_
   refine Qj hS Xh (hb 6 _ (by decide) hd) ?_
   exact⟨rfl,_,⟨rfl,rfl⟩,SL.into hS Xi⟩
  ·have hp:placeB L id=false:=by unfold placeB;rw[decide_eq_false (by omega)];rfl
   rw[hp]
   exact⟨_,⟨rfl,rfl⟩,SL.into hS Xi⟩
 ·have hp:placeB L id=false:=by unfold placeB;rw[decide_eq_false (by omega)];rfl
  rw[hp]
  exact⟨_,⟨rfl,rfl⟩,SL.into hS Xi⟩
theorem Ze(H:Heap)(v:Value)(L:List Rq)(hv:RdRq H v L)(hn:L.length≤1000):
  SP 119 [v] [.mem H] (λu post=>post=[.ob (OwnSl u 89 7 L.length (L.map encRq).flatten),.mem H]):=by
 exact clone_rd vc119 rfl (by decide) hv (rqs_one L) (by omega) (by omega)
theorem Yq(H:Heap)(v:Value)(L:List Rq)(table weight at_:Int)(hv:RdRq H v L)(hn:L.length≤1000):
  SP 225 [v,.int .i64 table,.int .i64 weight,.int .i64 at_] [.mem H] (λu post=>RqAnsO H u post (acceptR L table weight at_)):=by
 intro W F w hS;apply vc225;unfold Vc225;(try simp only[app]at hS)
 (apply zd (Ze H v L hv hn) hS;exact Xp;clear hS)
 rintro v1 post rfl w hS;(try simp only[app]at hS)
 repeat first|refine Gp ?_|refine Gw λw hS=>?_|refine Gb λb w hS=>?_
 refine zq hv ?_
 repeat first|refine Gp ?_|refine Gw λw hS=>?_|refine Gb λb w hS=>?_
 refine zw (n:=L.length) (m:=1) (cells:=(L.map encRq).flatten) hS Xr (src_pt0 (cs:=encRq ⟨((L.length+1:Nat):Int),table,weight,at_,0,0,false⟩) hS .hd rfl) rfl rfl (encRq_one _) (by omega) (by omega) ?_
 clear hS;intro v2 w hS
 rw[← flat_snoc]at hS
 obtain⟨H1,h01,hR1,hS⟩:=zz (H:=H) (v:=v2) (n:=L.length+1) (sz:=7) (t:=89) (cells:=((L++[(⟨((L.length+1:Nat):Int),table,weight,at_,0,0,false⟩:Rq)]).map encRq).flatten) hS Xp
 have hlen:(L++[(⟨((L.length+1:Nat):Int),table,weight,at_,0,0,false⟩:Rq)]).length=L.length+1:=by simp
 have hR1:RdRq H1 v2 (L++[(⟨((L.length+1:Nat):Int),table,weight,at_,0,0,false⟩:Rq)]):=by unfold RdRq;rw[hlen];exact hR1
 have hN:newRq L table weight at_=⟨((L.length+1:Nat):Int),table,weight,at_,0,0,false⟩:=rfl
 unfold acceptR
 rw[hN]
 generalize hL2:L++[(⟨((L.length+1:Nat):Int),table,weight,at_,0,0,false⟩:Rq)]=L2 at hR1 hlen ⊢
 (apply zd (ZN H1 v L (hv.mono h01) (by omega)) hS;exact Xp;clear hS)
 rintro _ post ⟨q1,rfl,hq1,rfl⟩ w hS
 (try simp only[app]at hS)
 repeat first|refine Gp ?_|refine Gw λw hS=>?_|refine Gb λb w hS=>?_
 refine zK (λhe=>?_) (λhe=>?_)
 ·rw[if_neg λh=>by rw[hq1.2 h.1]at he;cases he]
  exact⟨_,⟨H1,h01,rfl,rfl⟩,SL.into hS Xi⟩
 ·repeat first|refine Gp ?_|refine Gw λw hS=>?_|refine Gb λb w hS=>?_
  (apply zd (ZN H1 v2 L2 hR1 (by omega)) hS;exact Xp;clear hS)
  rintro _ post ⟨q2,rfl,hq2,rfl⟩ w hS
  (try simp only[app]at hS)
  repeat first|refine Gp ?_|refine Gw λw hS=>?_|refine Gb λb w hS=>?_
  refine zK (λhe2=>?_) (λhe2=>?_)
  ·rw[if_neg λh=>by rw[hq2.2 h.2]at he2;cases he2]
   exact⟨_,⟨H1,h01,rfl,rfl⟩,SL.into hS Xi⟩
  ·rw[if_pos ⟨hq1.1 he,hq2.1 he2⟩]
   exact⟨_,⟨H1,h01,rfl,v2,rfl,hR1⟩,SL.into hS Xi⟩
theorem placeB_at{L:List Rq}{id:Int}(h:placeB L id=true):∃j:Nat,∃hj:j<L.length,id=((j+1:Nat):Int)∧L[j].done=false:=by
 unfold placeB at h
 rw[Bool.and_eq_true,decide_eq_true_eq]at h
 obtain⟨⟨h1,h2⟩,h3⟩:=h
 have hj:(id-1).toNat<L.length:=by omega
 rw[List.getElem?_eq_getElem hj]at h3
 exact⟨(id-1).toNat,hj,by omega,by simpa using h3⟩
theorem chunkR_place{L:List Rq}{id c:Int}{dn:Bool}(h:placeB L id=false):chunkR L id c dn=none:=by
 unfold chunkR
 split
 ·rename_i hc
  have hj:(id-1).toNat<L.length:=by omega
  unfold placeB at h
  rw[decide_eq_true hc.2,List.getElem?_eq_getElem hj]at h
  rw[List.getElem?_eq_getElem hj]
  simp only[Bool.true_and,Bool.not_eq_false']at h
  simp only[h,true_or,if_true]
 ·rfl
theorem rq_set{L:List Rq}{rest:List Value}{j i:Nat}(hj:j<L.length)(hi:i<7){v:Value}{y:Rq}(hy:(encRq L[j]).set i v=encRq y):((L.map encRq).flatten++rest).set (0+j*7+i) v=((L.set j y).map encRq).flatten++rest:=by
 rw[Nat.zero_add,List.set_append_left _ _ (by rw[flat_len encRq_len];omega),flat_setN encRq_len L j i hj y v hi hy]
theorem rq_at{L:List Rq}{rest:List Value}{j i:Nat}(hj:j<L.length){u:Value}(hu:(encRq L[j])[i]?=some u):((L.map encRq).flatten++rest)[0+j*7+i]?=some u:=by
 have h:=flat_at encRq_len L j i L[j] u (List.getElem?_eq_getElem hj) hu
 rw[Nat.zero_add,List.getElem?_append_left (List.getElem?_eq_some_iff.1 h).1];exact h
theorem YM(H:Heap)(v:Value)(L:List Rq)(id cursor:Int)(dn:Bool)(hv:RdRq H v L)(hn:L.length≤1000)(hid : -9223372036854775808≤id∧id≤9223372036854775807):
  SP 224 [v,.int .i64 id,.int .i64 cursor,.bool dn] [.mem H] (λu post=>RqAnsO H u post (chunkR L id cursor dn)):=by
 intro W F w hS;apply vc224;unfold Vc224;(try simp only[app]at hS)
 have hno:∀{w:World},chunkR L id cursor dn=none→SL W (.mem H::F) w→∃post,RqAnsO H (.tuple #[.slice none 0 0,.bool false]) post (chunkR L id cursor dn)∧SL W (app post F) w:=λe hS=>⟨_,⟨H,Heap.le_refl H,rfl,by rw[e]⟩,hS⟩
 (apply zd (qM H v L id hv hn hid) hS;exact Xp;clear hS)
 (rintro v post ⟨rfl,rfl⟩ w hS;(try simp only[app]at hS);(repeat (first|refine Gp ?_|refine Gw λw hS=>?_|refine Gb λb w hS=>?_)))
 (apply zd (ZN H v L hv (by omega)) hS;exact Xp;clear hS)
 rintro _ post ⟨q1,rfl,hq1,rfl⟩ w hS
 (try simp only[app]at hS)
 repeat first|refine Gp ?_|refine Gw λw hS=>?_|refine Gb λb w hS=>?_
 refine zK (λhe=>hno (chunkR_no λh=>by rw[hq1.2 h.1]at he;cases he) (SL.into hS Xi)) (λhe=>?_)
 have hM:=hq1.1 he
 repeat first|refine Gp ?_|refine Gw λw hS=>?_|refine Gb λb w hS=>?_
 refine zK (λh=>hno (chunkR_place h) (SL.into hS Xi)) (λh1=>?_)
 obtain⟨j,hj,rfl,hd⟩:=placeB_at h1
 have ew:IntKind.i64.wrap (((j+1:Nat):Int)-1)=(j:Int):=by rw[wrap_in (by omega)];omega
 rw[ew]
 have hcr:=chunkR_at hM hj cursor dn
 have hok:=(hM.2 j hj).1
 unfold okRq at hok
 have hx:L[j]?=some L[j]:=List.getElem?_eq_getElem hj
 refine zY hS Xh encRq_len hv hx hj (i:=4) rfl ?_
 repeat first|refine Gp ?_|refine Gw λw hS=>?_|refine Gb λb w hS=>?_
 refine ze (λh=>hno (by rw[hcr,if_pos (.inr (.inl h))]) (SL.into hS Xi)) (λh4=>?_)
 repeat first|refine Gp ?_|refine Gw λw hS=>?_|refine Gb λb w hS=>?_
 refine ze (λh=>hno (by rw[hcr,if_pos (.inr (.inr (.inl h)))]) (SL.into hS Xi)) (λh5=>?_)
 refine zY hS Xh encRq_len hv hx hj (i:=5) rfl ?_
 repeat first|refine Gp ?_|refine Gw λw hS=>?_|refine Gb λb w hS=>?_
 refine ze (λh=>hno (by rw[hcr,if_pos (.inr (.inr (.inr h)))]) (SL.into hS Xi)) (λh6=>?_)
 rw[hcr,if_neg (by rw[hd];rintro (h|h|h|h);exact Bool.false_ne_true h;exact h4 h;exact h5 h;exact h6 h)]
 (apply zd (Ze H v L hv hn) hS;exact Xp;clear hS)
 rintro v1 post rfl w hS;(try simp only[app]at hS)
 rcases OwnSl.open hS with ⟨_,h0,_⟩|⟨ob,cap,rest,rfl,hc,hl,hrest,hS⟩
 ·omega
 refine zC hj (zW (yW hS Xu (rq_at hj (i:=4) rfl) rfl ?_))
 clear hS;intro w hS
 rw[rq_set hj (by decide) (y:={L[j] with cursor:=cursor}) rfl]at hS
 have hj1:j<(L.set j {L[j] with cursor:=cursor}).length:=by rw[List.length_set];exact hj
 have e1:(L.set j {L[j] with cursor:=cursor})[j]={L[j] with cursor:=cursor}:=by simp
 refine zC hj (zW (yW hS Xu (rq_at hj1 (i:=6) (u:=.bool L[j].done) (by rw[e1];rfl)) rfl ?_))
 clear hS;intro w hS
 rw[rq_set hj1 (by decide) (y:={L[j] with cursor:=cursor,done:=dn}) (by rw[e1];rfl),List.set_set]at hS
 have hj2:j<(L.set j {L[j] with cursor:=cursor,done:=dn}).length:=by rw[List.length_set];exact hj
 have e2:(L.set j {L[j] with cursor:=cursor,done:=dn})[j]={L[j] with cursor:=cursor,done:=dn}:=by simp
 refine zC hj (zW (zS hS .hd (rq_at hj2 (i:=5) (u:=.int .i64 L[j].chunks) (by rw[e2];rfl)) ?_))
 repeat first|refine Gp ?_|refine Gw λw hS=>?_|refine Gb λb w hS=>?_
 refine zC hj (zW (yW hS Xu (rq_at hj2 (i:=5) (u:=.int .i64 L[j].chunks) (by rw[e2];rfl)) rfl ?_))
 clear hS;intro w hS
 rw[rq_set hj2 (by decide) (y:={L[j] with cursor:=cursor,chunks:=L[j].chunks+1,done:=dn}) (by rw[e2];rfl),List.set_set]at hS
 generalize hL2:L.set j {L[j] with cursor:=cursor,chunks:=L[j].chunks+1,done:=dn}=L2 at *
 have hlen:L2.length=L.length:=by rw[← hL2,List.length_set]
 have hS:=OwnSl.mk (n:=L2.length) (cap:=cap) (sz:=7) (rest:=rest) (by omega) (flat_len encRq_len L2) (by rw[hlen];exact hrest) hS
 obtain⟨H1,h01,hR1,hS⟩:=zz (H:=H) (v:=.slice (some ⟨ob,0,none⟩) L2.length cap) (n:=L2.length) (sz:=7) (t:=89) (cells:=(L2.map encRq).flatten) hS Xp
 exact⟨_,⟨H1,h01,rfl,_,rfl,by rw[← hlen];exact hR1⟩,SL.into hS Xi⟩
structure ItV where
 lsn:Int
 ov:Value
 nv:Value
def encIt(x:ItV):List Value:=[.int .i64 x.lsn,x.ov,x.nv]
abbrev RdOps(H:Heap)(v:Value)(l:List AOp):Prop:=RdSl H 5 v l.length (l.map encOp).flatten
abbrev RdNts(H:Heap)(v:Value)(l:List PNote):Prop:=RdSl H 7 v l.length (l.map encNote).flatten
structure ItIs(H:Heap)(x:ItV)(t:PItem):Prop where
 lsn:x.lsn=t.lsn
 ops:RdOps H x.ov t.ops
 nts:RdNts H x.nv t.notes
theorem ItIs.mono{H H':Heap}(hh:H.le H'){x:ItV}{t:PItem}(h:ItIs H x t):ItIs H' x t:=⟨h.lsn,h.ops.mono hh,h.nts.mono hh⟩
theorem encIt_len(x:ItV):(encIt x).length=3:=rfl
theorem encNote_one(n:PNote):∀v∈encNote n,v.oneCell'=true:=by simp[encNote,Value.oneCell']
theorem encOp_len'(o:AOp):(encOp o).length=5:=rfl
theorem encIt_one{H:Heap}{x:ItV}{t:PItem}(h:ItIs H x t):∀v∈encIt x,v.oneCell'=true:=by
 intro v hv
 simp only[encIt,List.mem_cons,List.not_mem_nil,or_false]at hv
 rcases hv with rfl|rfl|rfl
 ·rfl
 ·exact h.ops.one
 ·exact h.nts.one
theorem u8c_one(b:List UInt8):∀v∈b.map u8c,v.oneCell'=true:=λv hv=>by
 obtain⟨x,_,rfl⟩:=List.mem_map.1 hv;rfl
section
variable {W w:World} {l:List Chunk}
theorem Zj{F:List Chunk}{a:Option Addr}{k cap:Nat}{cs:List Value}{K:Value→World→Prop}(hS:SL W F w)(hsrc:∀w' c,SL W (c::F) w'→srcCells w' 1 (.slice a k cap) k cs)(hl:cs.length=k)(h1:∀v∈cs,v.oneCell'=true)(hb:k≤140737488355328)
  (h:∀u w',SL W (.ob (OwnSl u 5 1 k cs)::F) w'→(a.isSome=true→u≠.slice none 0 0∨k=0)→K u w'):HCl 185 [.slice a k cap] w K:=by
 apply vc185;unfold Vc185
 refine Q6 ?_
 cases a with
 | none=>
  refine zy ?_
  have hs:=hsrc _ _ (OwnSl.nil (t:=5) (sz:=1) hS)
  obtain rfl:cs=[]:=hs.2
  obtain rfl:k=0:=by simpa using hl.symm
  exact h _ _ (OwnSl.nil hS) (λh=>by cases h)
 | some p=>
  refine zr ?_
  refine zD hS rfl ?_
  intro b w' hS'
  have hS2:SL W (.ob (OwnSl (.slice (some ⟨b,0,none⟩) 0 0) 5 1 0 [])::F) w':=OwnSl.full rfl hS'
  refine zw hS2 .hd (hsrc _ _ hS2) (by rw[hl];omega) rfl h1 (by omega) (by omega) ?_
  intro u w2 hS3
  rw[Nat.zero_add,List.nil_append]at hS3
  refine h u w2 hS3 λ_=>?_
  rcases Nat.eq_zero_or_pos k with hk|hk
  ·exact .inr hk
  ·refine .inl λe=>?_
   subst e
   rcases OwnSl.open hS3 with ⟨_,h2,_⟩|⟨b,cap,rest,h2,_⟩
   ·omega
   ·cases h2
theorem Q8{v:Value}{t:TypeId}{sz n k:Nat}{kk:IntKind}{cells:List Value}{K:Value→Prop}(h:SL W l w)(m:Has (.ob (OwnSl v t sz n cells)) l)(hk:k≤n)
  (hK:∀a cap,(∀w' l',SL W l' w'→Has (.ob (OwnSl v t sz n cells)) l'→srcCells w' sz (.slice a k cap) k (cells.take (k*sz)))→K (.slice a k cap)):HSl sz v none (some (.int kk (k:Int))) none K:=by
 obtain⟨a,cap,rfl,hl,hx⟩:=OwnSl.at h m
 have hcap:n≤cap:=by
  obtain⟨l2,r⟩:=m.rem
  rcases OwnSl.open (h.perm r.perm) with ⟨⟨a',e⟩,rfl,rfl,_⟩|⟨b,cap',rest,e,hc,_⟩
  ·cases e;omega
  ·cases e;exact hc
 refine⟨a,n,cap,0,k,cap,rfl,rfl,⟨kk,rfl⟩,rfl,Nat.zero_le _,by omega,Nat.le_refl _,?_⟩
 rw[Nat.sub_zero,Nat.sub_zero]
 have e:(if cap=0 then a else a.map (·.add (0*sz)))=a:=by
  split
  ·rfl
  ·cases a<;>simp[Addr.add]
 rw[e]
 refine hK a cap λw' l' h' m'=>?_
 have hs:=src_own h' m'
 cases a with
 | none=>
  obtain⟨e1,e2⟩:=hs
  subst e2
  have e1:n=n:=e1
  have hn:n*sz=0:=by simpa using hl.symm
  refine⟨rfl,by simp⟩
 | some p=>
  obtain⟨_,e2,e3⟩:=hs
  refine⟨rfl,by rw[List.length_take,e2];exact Nat.min_eq_left (Nat.mul_le_mul_right _ hk),λj v e=>?_⟩
  rw[List.getElem?_take]at e
  split at e
  ·exact e3 j v e
  ·cases e
end
theorem appendD_gen(X:Chunk)(dp:Nat)(s:DS)(N:Nat)(hok:s.Ok N)(hops:s.ops≤100000)(f:Int)(bv:Value)(b:List UInt8)(hX:∀{W:World} {l:List Chunk} {w:World},SL W l w→Has X l→srcCells w 1 bv b.length (b.map u8c))(hN:N+b.length≤140737488355328):
  SP 21 [.pointer (some ⟨dp,0,none⟩),.int .i64 f,bv] [.ob (DskO dp s),X] (Gives (.int .i64 (s.append f b).2) [.ob (DskO dp (s.append f b).1),X]):=by
 intro W F w hS;apply vc21;unfold Vc21;(try simp only[app]at hS)
 obtain⟨mb,m,L,hr,hS⟩:=DskO.iff.1 hS
 (apply zd (Z7 dp mb s f) hS;exact Xp;clear hS)
 (rintro v post ⟨rfl,rfl⟩ w hS;(try simp only[app]at hS);(repeat (first|refine Gp ?_|refine Gw λw hS=>?_|refine Gb λb w hS=>?_)))
 unfold DS.append
 refine ze (λh=>?_) (λh=>?_)
 ·rw[if_pos h]
  exact⟨_,⟨rfl,rfl⟩,DskO.iff.2 ⟨mb,m,L,hr,SL.into hS Xi⟩⟩
 ·rw[if_neg h]
  have hm:may s f=0:=by omega
  obtain⟨h0,hf0,hf1⟩:=may_zero hm
  repeat first|refine Gp ?_|refine Gw λw hS=>?_|refine Gb λb w hS=>?_
  refine yQ hS Xh (keyOkI .i64) Tryz.underlying142 Tryz.underlying3 (λ_=>rfl) ?_
  rw[hr.get f]
  have hlenR:=hok.len
  cases hg:getK idP L f with
  | none=>
   simp only[Option.map_none,Option.getD_none]
   refine ZT (zy ?_)
   refine ZW rfl ?_
   refine⟨_,rfl,zJ hS ?_⟩
   clear hS;intro p w hS
   repeat first|refine Gp ?_|refine Gw λw hS=>?_|refine Gb λb w hS=>?_
   refine YP (key:=Value.int .i64) (val:=ptrV) (k:=f) (v:=p) hS Xu (keyOkI .i64) Tryz.underlying142 Tryz.underlying3 ?_
   clear hS;intro _ w hS
   repeat first|refine Gp ?_|refine Gw λw hS=>?_|refine Gb λb w hS=>?_
   have hS:=OwnSl.nil (t:=5) (sz:=1) hS
   refine zw (n:=0) (m:=b.length) hS .hd (hX hS Xh) (by simp) rfl (u8c_one b) (by omega) (by omega) ?_
   clear hS;intro v w hS
   rw[Nat.zero_add,List.nil_append]at hS
   have hone:=hS.ownOne .hd
   repeat first|refine Gp ?_|refine Gw λw hS=>?_|refine Gb λb w hS=>?_
   (apply zd (yl dp mb s h0 hok.arm0 hok.arm1 hops) hS;exact Xp;clear hS)
   (rintro v post ⟨rfl,rfl⟩ w hS;(try simp only[app]at hS);(repeat (first|refine Gp ?_|refine Gw λw hS=>?_|refine Gb λb w hS=>?_)))
   have hS:=(FileO.iff (x:=((⟨f,0,b⟩:PF),p))).2 ⟨v,SL.into hS (t:=.pt p [v,.int .i64 0] 178::.ob (OwnSl v 5 1 b.length (b.map u8c))::.ob (zh FileO L)::.pt dp (dcells mb s.cnt) 144::.ob (MapO (Value.int .i64) ptrV mb (mset m f p))::X::F) Xi⟩
   have hS:=zh.snoc (SL.into hS (t:=.ob (zh FileO L)::.ob (FileO ((⟨f,0,b⟩:PF),p))::.pt dp (dcells mb s.cnt) 144::.ob (MapO (Value.int .i64) ptrV mb (mset m f p))::X::F) Xi)
   have hnew:=hr.new hg (y:=⟨f,0,b⟩) rfl p
   have hS:=zh.perm hS (ys:=putK idP L (⟨f,0,b⟩,p)) (by
    have hi:isK idP L (idP ((⟨f,0,b⟩:PF),p))=false:=by rw[← getK_isK,show idP ((⟨f,0,b⟩:PF),p)=f from rfl,hg];rfl
    exact List.perm_append_comm.trans (putK_perm hr.rel.2 hi).symm)
   have e:appF s.R f b=putK PF.id s.R ⟨f,0,b⟩:=by
    unfold appF;rw[hr.getR f,hg];rfl
   rw[e]
   exact⟨_,⟨rfl,rfl⟩,DskO.iff.2 ⟨mb,_,_,hnew,SL.into hS Xi⟩⟩
  | some x=>
   obtain⟨g1,g2,g3⟩:=getK_at hg
   have hS:=zh.take (SL.into hS (t:=.ob (zh FileO L)::.pt dp (dcells mb s) 144::.ob (MapO (Value.int .i64) ptrV mb m)::X::F) Xi) g1
   obtain⟨v0,hS⟩:=FileO.iff.1 hS
   simp only[Option.map_some,Option.getD_some]
   unfold ptrV
   refine ZT (zr ?_)
   repeat first|refine Gp ?_|refine Gw λw hS=>?_|refine Gb λb w hS=>?_
   have hxN:x.1.b.length≤N:=hlenR _ (by rw[← hr.eq];exact List.mem_map.2 ⟨x,List.mem_of_getElem? g1,rfl⟩)
   refine zw (n:=x.1.b.length) (m:=b.length) hS Xr (hX hS Xh) (by simp) rfl (u8c_one b) (by omega) (by omega) ?_
   clear hS;intro v w hS
   have hone:=hS.ownOne .hd
   repeat first|refine Gp ?_|refine Gw λw hS=>?_|refine Gb λb w hS=>?_
   (apply zd (yl dp mb s h0 hok.arm0 hok.arm1 hops) hS;exact Xp;clear hS)
   (rintro v post ⟨rfl,rfl⟩ w hS;(try simp only[app]at hS);(repeat (first|refine Gp ?_|refine Gw λw hS=>?_|refine Gb λb w hS=>?_)))
   have e1:x.1.b.map u8c++b.map u8c=(x.1.b++b).map u8c:=by rw[List.map_append]
   have e2:x.1.b.length+b.length=(x.1.b++b).length:=by rw[List.length_append]
   rw[e1,e2]at hS
   have hS:=(FileO.iff (x:=((⟨f,x.1.safe,x.1.b++b⟩:PF),x.2))).2 ⟨v,SL.into hS (t:=.pt x.2 [v,.int .i64 x.1.safe] 178::.ob (OwnSl v 5 1 (x.1.b++b).length ((x.1.b++b).map u8c))::.ob (zh FileO (L.eraseIdx (cntK idP L f)))::.pt dp (dcells mb s.cnt) 144::.ob (MapO (Value.int .i64) ptrV mb m)::X::F) Xi⟩
   have hS:=zh.put hS g2
   have e:appF s.R f b=putK PF.id s.R ⟨f,x.1.safe,x.1.b++b⟩:=by
    unfold appF;rw[hr.getR f,hg];rfl
   rw[e]
   exact⟨_,⟨rfl,rfl⟩,DskO.iff.2 ⟨mb,_,_,hr.set hg (y:=⟨f,x.1.safe,x.1.b++b⟩) rfl,SL.into hS Xi⟩⟩
theorem findV_cases{s:DS}{m:List (Int × Nat)}{L:List EF}(hr:DRel m L s.R)(f:Int):
  (s.find f≠0∧findV s m f= .tuple #[.pointer none,.int .i64 (s.find f)])∨(s.find f=0∧may s f=0∧∃x,getK idP L f=some x∧findV s m f= .tuple #[ptrV x.2,.int .i64 0]):=by
 unfold DS.find findV
 by_cases h:may s f=0
 ·have h':¬may s f≠0:=λe=>e h
  rw[if_neg h',if_neg h',hr.get f]
  have hi:isK PF.id s.R f=(getK idP L f).isSome:=by rw[← getK_isK,hr.getR f,Option.isSome_map]
  rw[hi]
  cases hg:getK idP L f with
  | none=>exact .inl ⟨by simp,by simp⟩
  | some x=>exact .inr ⟨by simp,h,x,rfl,rfl⟩
 ·rw[if_pos h,if_pos h]
  exact .inl ⟨h,rfl⟩
theorem fileTake{W w:World}{L:List EF}{f:Int}{x:EF}{l:List Chunk}(hg:getK idP L f=some x)(hS:SL W (.ob (zh FileO L)::l) w):SL W (.ob (FileO x)::.ob (zh FileO (L.eraseIdx (cntK idP L f)))::l) w:=zh.take hS (getK_at hg).1
theorem filePut{W w:World}{L:List EF}{f:Int}{x y:EF}{l:List Chunk}(hg:getK idP L f=some x)(hS:SL W (.ob (FileO y)::.ob (zh FileO (L.eraseIdx (cntK idP L f)))::l) w):SL W (.ob (zh FileO (L.set (cntK idP L f) y))::l) w:=zh.put hS (getK_at hg).2.1
theorem filePutBack{W w:World}{L:List EF}{f:Int}{x:EF}{l:List Chunk}(hg:getK idP L f=some x)(hS:SL W (.ob (FileO x)::.ob (zh FileO (L.eraseIdx (cntK idP L f)))::l) w):SL W (.ob (zh FileO L)::l) w:=by
 have h:=filePut hg hS
 have e:L.set (cntK idP L f) x=L:=by
  obtain⟨h1,h2⟩:=List.getElem?_eq_some_iff.1 (getK_at hg).1
  rw[← h2];simp
 rwa [e]at h
theorem updF_some{R:List PF}{f:Int}{x:PF}(h:getK PF.id R f=some x)(g:PF→PF):updF R f g=putK PF.id R {g x with id:=f}:=by
 unfold updF;rw[h]
theorem qI(dp:Nat)(s:DS)(N:Nat)(hok:s.Ok N)(hops:s.ops≤100000)(f:Int):
  SP 22 [.pointer (some ⟨dp,0,none⟩),.int .i64 f] [.ob (DskO dp s)] (Gives (.int .i64 (s.sync f).2) [.ob (DskO dp (s.sync f).1)]):=by
 intro W F w hS;apply vc22;unfold Vc22;(try simp only[app]at hS)
 obtain⟨mb,m,L,hr,hS⟩:=DskO.iff.1 hS
 (apply zd (yX dp mb s m f) hS;exact Xp;clear hS)
 rintro v post ⟨rfl,rfl⟩ w hS
 (try simp only[app]at hS)
 unfold DS.sync
 rcases findV_cases hr f with ⟨h1,e⟩|⟨h1,h2,x,hg,e⟩
 ·rw[e,if_pos h1]
  repeat first|refine Gp ?_|refine Gw λw hS=>?_|refine Gb λb w hS=>?_
  refine ze (λh=>absurd h h1) (λ_=>?_)
  repeat first|refine Gp ?_|refine Gw λw hS=>?_|refine Gb λb w hS=>?_
  refine ze (λh=>absurd h h1) (λ_=>?_)
  exact⟨_,⟨rfl,rfl⟩,DskO.iff.2 ⟨mb,m,L,hr,SL.into hS Xi⟩⟩
 ·obtain⟨h0,hf0,hf1⟩:=may_zero h2
  rw[e,if_neg (λh=>h h1)]
  unfold ptrV
  repeat first|refine Gp ?_|refine Gw λw hS=>?_|refine Gb λb w hS=>?_
  refine ze (λ_=>?_) (λh=>absurd rfl h)
  (apply zd (yl dp mb s h0 hok.arm0 hok.arm1 hops) hS;exact Xp;clear hS)
  (rintro v post ⟨rfl,rfl⟩ w hS;(try simp only[app]at hS);(repeat (first|refine Gp ?_|refine Gw λw hS=>?_|refine Gb λb w hS=>?_)))
  by_cases hc:s.cnt.off=true
  ·have he:s.cnt.err=8:=by unfold DS.err;rw[if_pos hc]
   rw[he,if_pos hc]
   refine ze (λh=>by cases h) (λ_=>?_)
   exact⟨_,⟨rfl,rfl⟩,DskO.iff.2 ⟨mb,m,L,hr,SL.into hS Xi⟩⟩
  ·have he:s.cnt.err=0:=by unfold DS.err;rw[if_neg hc]
   rw[he,if_neg hc]
   refine ze (λ_=>?_) (λh=>absurd rfl h)
   have hS:=fileTake hg (SL.into hS (t:=.ob (zh FileO L)::.pt dp (dcells mb s.cnt) 144::.ob (MapO (Value.int .i64) ptrV mb m)::F) Xi)
   obtain⟨v0,hS⟩:=FileO.iff.1 hS
   repeat first|refine Gp ?_|refine Gw λw hS=>?_|refine Gb λb w hS=>?_
   refine zE hS (t:=5) (sz:=1) (n:=x.1.b.length) (cells:=x.1.b.map u8c) Xh ?_
   repeat first|refine Gp ?_|refine Gw λw hS=>?_|refine Gb λb w hS=>?_
   have hS:=filePut hg ((FileO.iff (x:=((⟨f,x.1.b.length,x.1.b⟩:PF),x.2))).2 ⟨v0,SL.into hS (t:=.pt x.2 [v0,.int .i64 (x.1.b.length:Int)] 178::.ob (OwnSl v0 5 1 x.1.b.length (x.1.b.map u8c))::.ob (zh FileO (L.eraseIdx (cntK idP L f)))::.pt dp (dcells mb s.cnt) 144::.ob (MapO (Value.int .i64) ptrV mb m)::F) Xi⟩)
   have eR:=updF_some (f:=f) (x:=x.1) (by rw[hr.getR f,hg];rfl) λx=>{x with safe:=x.b.length}
   rw[eR]
   exact⟨_,⟨rfl,rfl⟩,DskO.iff.2 ⟨mb,_,_,hr.set hg (y:=⟨f,x.1.b.length,x.1.b⟩) rfl,SL.into hS Xi⟩⟩
theorem QH(x:EF)(n:Nat)(hn:n≤x.1.b.length)(hb:n≤140737488355328):SP 109 [ptrV x.2,.int .i64 (n:Int)] [.ob (FileO x)] (Gives (.tuple #[]) [.ob (FileO (cutF n x.1,x.2))]):=by
 intro W F w hS;apply vc109;unfold Vc109;(try simp only[app]at hS)
 obtain⟨v0,hS⟩:=FileO.iff.1 hS
 unfold ptrV
 repeat first|refine Gp ?_|refine Gw λw hS=>?_|refine Gb λb w hS=>?_
 refine Q8 hS (t:=5) (sz:=1) (n:=x.1.b.length) (cells:=x.1.b.map u8c) Xh hn ?_
 intro a cap hsrc
 refine Zj (cs:=(x.1.b.map u8c).take (n*1)) hS (λw' c hS'=>hsrc w' _ hS' (.tl Xh)) (by simp;omega) (λv hv=>u8c_one _ v (List.mem_of_mem_take hv)) (by omega) ?_
 clear hS;intro u w hS _
 have hone:=hS.ownOne .hd
 repeat first|refine Gp ?_|refine Gw λw hS=>?_|refine Gb λb w hS=>?_
 have e1:(x.1.b.map u8c).take (n*1)=(cutF n x.1).b.map u8c:=by rw[Nat.mul_one,← List.map_take];rfl
 have e2:(cutF n x.1).b.length=n:=by simp only[cutF,List.length_take];omega
 have e3:min (x.1.safe:Int) (n:Int)=(((cutF n x.1).safe:Nat):Int):=by simp only[cutF];omega
 rw[e1,e3]at hS
 refine⟨_,⟨rfl,rfl⟩,FileO.iff.2 ⟨u,?_⟩⟩
 rw[e2]
 exact SL.into hS Xi
theorem lenF_some{s:DS}{m:List (Int × Nat)}{L:List EF}(hr:DRel m L s.R){f:Int}{x:EF}(hg:getK idP L f=some x):lenF s.R f=x.1.b.length:=by
 unfold lenF;rw[hr.getR f,hg];rfl
theorem Yb(dp:Nat)(s:DS)(N:Nat)(hok:s.Ok N)(hN:N≤140737488355328)(hops:s.ops≤100000)(f n:Int):
  SP 214 [.pointer (some ⟨dp,0,none⟩),.int .i64 f,.int .i64 n] [.ob (DskO dp s)] (Gives (.int .i64 (s.cut f n).2) [.ob (DskO dp (s.cut f n).1)]):=by
 intro W F w hS;apply vc214;unfold Vc214;(try simp only[app]at hS)
 obtain⟨mb,m,L,hr,hS⟩:=DskO.iff.1 hS
 (apply zd (yX dp mb s m f) hS;exact Xp;clear hS)
 rintro v post ⟨rfl,rfl⟩ w hS
 (try simp only[app]at hS)
 unfold DS.cut
 rcases findV_cases hr f with ⟨h1,e⟩|⟨h1,h2,x,hg,e⟩
 ·rw[e,if_pos h1]
  repeat first|refine Gp ?_|refine Gw λw hS=>?_|refine Gb λb w hS=>?_
  refine⟨λus w=>us=[.int .i64 (s.find f)]∧SL W (.pt dp (dcells mb s) 144::.ob (MapO (Value.int .i64) ptrV mb m)::.ob (zh FileO L)::F) w,?_,?_⟩
  ·repeat first|refine Gp ?_|refine Gw λw hS=>?_|refine Gb λb w hS=>?_
   refine ze (λh=>absurd h h1) (λ_=>?_)
   exact⟨rfl,SL.into hS Xi⟩
  ·clear hS
   rintro v8 w ⟨hus,hS⟩
   cases hus
   repeat first|refine Gp ?_|refine Gw λw hS=>?_|refine Gb λb w hS=>?_
   refine ze (λh=>absurd h h1) (λ_=>?_)
   repeat first|refine Gp ?_|refine Gw λw hS=>?_|refine Gb λb w hS=>?_
   refine ze (λh=>absurd h h1) (λ_=>?_)
   exact⟨_,⟨rfl,rfl⟩,DskO.iff.2 ⟨mb,m,L,hr,SL.into hS Xi⟩⟩
 ·obtain⟨h0,hf0,hf1⟩:=may_zero h2
  rw[e,if_neg (λh=>h h1)]
  unfold ptrV
  repeat first|refine Gp ?_|refine Gw λw hS=>?_|refine Gb λb w hS=>?_
  rw[lenF_some hr hg]
  have hxN:x.1.b.length≤N:=hok.len _ (by rw[← hr.eq];exact List.mem_map.2 ⟨x,List.mem_of_getElem? (getK_at hg).1,rfl⟩)
  refine⟨λus w=>us=[.int .i64 (if n<0∨(x.1.b.length:Int)<n then 1 else 0)]∧SL W (.pt dp (dcells mb s) 144::.ob (MapO (Value.int .i64) ptrV mb m)::.ob (zh FileO L)::F) w,?_,?_⟩
  ·repeat first|refine Gp ?_|refine Gw λw hS=>?_|refine Gb λb w hS=>?_
   refine ze (λ_=>?_) (λh=>absurd rfl h)
   repeat first|refine Gp ?_|refine Gw λw hS=>?_|refine Gb λb w hS=>?_
   refine ze (λh=>?_) (λh=>?_)
   ·rw[if_pos (.inl h)]
    exact⟨rfl,SL.into hS Xi⟩
   ·have hS:=fileTake hg (SL.into hS (t:=.ob (zh FileO L)::.pt dp (dcells mb s) 144::.ob (MapO (Value.int .i64) ptrV mb m)::F) Xi)
    obtain⟨v0,hS⟩:=FileO.iff.1 hS
    repeat first|refine Gp ?_|refine Gw λw hS=>?_|refine Gb λb w hS=>?_
    refine zE hS (t:=5) (sz:=1) (n:=x.1.b.length) (cells:=x.1.b.map u8c) Xh ?_
    repeat first|refine Gp ?_|refine Gw λw hS=>?_|refine Gb λb w hS=>?_
    have hS:=filePutBack hg (FileO.iff.2 ⟨v0,hS⟩)
    refine ze (λh3=>?_) (λh3=>?_)
    ·rw[if_pos (.inr h3)]
     exact⟨rfl,SL.into hS Xi⟩
    ·rw[if_neg (by omega)]
     exact⟨rfl,SL.into hS Xi⟩
  ·clear hS
   rintro v8 w ⟨hus,hS⟩
   cases hus
   repeat first|refine Gp ?_|refine Gw λw hS=>?_|refine Gb λb w hS=>?_
   by_cases hn:n<0∨(x.1.b.length:Int)<n
   ·rw[if_pos hn,if_pos hn]
    refine ze (λh=>by cases h) (λ_=>?_)
    repeat first|refine Gp ?_|refine Gw λw hS=>?_|refine Gb λb w hS=>?_
    refine ze (λh=>by cases h) (λ_=>?_)
    exact⟨_,⟨rfl,rfl⟩,DskO.iff.2 ⟨mb,m,L,hr,SL.into hS Xi⟩⟩
   ·rw[if_neg hn,if_neg hn]
    refine ze (λ_=>?_) (λh=>absurd rfl h)
    (apply zd (yl dp mb s h0 hok.arm0 hok.arm1 hops) hS;exact Xp;clear hS)
    (rintro v post ⟨rfl,rfl⟩ w hS;(try simp only[app]at hS);(repeat (first|refine Gp ?_|refine Gw λw hS=>?_|refine Gb λb w hS=>?_)))
    by_cases hc:s.cnt.off=true
    ·have he:s.cnt.err=8:=by unfold DS.err;rw[if_pos hc]
     rw[he,if_pos hc]
     refine ze (λh=>by cases h) (λ_=>?_)
     exact⟨_,⟨rfl,rfl⟩,DskO.iff.2 ⟨mb,m,L,hr,SL.into hS Xi⟩⟩
    ·have he:s.cnt.err=0:=by unfold DS.err;rw[if_neg hc]
     rw[he,if_neg hc]
     refine ze (λ_=>?_) (λh=>absurd rfl h)
     have hS:=fileTake hg (SL.into hS (t:=.ob (zh FileO L)::.pt dp (dcells mb s.cnt) 144::.ob (MapO (Value.int .i64) ptrV mb m)::F) Xi)
     obtain⟨k,rfl⟩:∃k:Nat,n=(k:Int):=⟨n.toNat,by omega⟩
     have hC:=QH x k (by omega) (by omega)
     unfold ptrV at hC
     (apply zd (hC) hS;exact Xp;clear hS)
     (rintro v post ⟨rfl,rfl⟩ w hS;(try simp only[app]at hS);(repeat (first|refine Gp ?_|refine Gw λw hS=>?_|refine Gb λb w hS=>?_)))
     have hS:=filePut hg (y:=({cutF k x.1 with id:=f},x.2)) (SL.into hS (t:=.ob (FileO ({cutF k x.1 with id:=f},x.2))::.ob (zh FileO (L.eraseIdx (cntK idP L f)))::.pt dp (dcells mb s.cnt) 144::.ob (MapO (Value.int .i64) ptrV mb m)::F) (by
      have:(cutF k x.1,x.2)=(({cutF k x.1 with id:=f}:PF),x.2):=by
       have:=(getK_at hg).2.2
       unfold idP at this
       rw[← this];rfl
      rw[this]
      exact Xi))
     have eR:=updF_some (f:=f) (x:=x.1) (by rw[hr.getR f,hg];rfl) (cutF (k:Int).toNat)
     rw[eR,Int.toNat_natCast]
     exact⟨_,⟨rfl,rfl⟩,DskO.iff.2 ⟨mb,_,_,hr.set hg (y:={cutF k x.1 with id:=f}) rfl,SL.into hS Xi⟩⟩
theorem Zd(dp:Nat)(s:DS)(N:Nat)(hok:s.Ok N)(hops:s.ops≤100000)(f:Int):
  SP 212 [.pointer (some ⟨dp,0,none⟩),.int .i64 f] [.ob (DskO dp s)] (Gives (.int .i64 (s.remove f).2) [.ob (DskO dp (s.remove f).1)]):=by
 intro W F w hS;apply vc212;unfold Vc212;(try simp only[app]at hS)
 obtain⟨mb,m,L,hr,hS⟩:=DskO.iff.1 hS
 (apply zd (yX dp mb s m f) hS;exact Xp;clear hS)
 rintro v post ⟨rfl,rfl⟩ w hS
 (try simp only[app]at hS)
 unfold DS.remove
 rcases findV_cases hr f with ⟨h1,e⟩|⟨h1,h2,x,hg,e⟩
 ·rw[e,if_pos h1]
  repeat first|refine Gp ?_|refine Gw λw hS=>?_|refine Gb λb w hS=>?_
  refine ze (λh=>absurd h h1) (λ_=>?_)
  repeat first|refine Gp ?_|refine Gw λw hS=>?_|refine Gb λb w hS=>?_
  refine ze (λh=>absurd h h1) (λ_=>?_)
  exact⟨_,⟨rfl,rfl⟩,DskO.iff.2 ⟨mb,m,L,hr,SL.into hS Xi⟩⟩
 ·obtain⟨h0,hf0,hf1⟩:=may_zero h2
  rw[e,if_neg (λh=>h h1)]
  unfold ptrV
  repeat first|refine Gp ?_|refine Gw λw hS=>?_|refine Gb λb w hS=>?_
  refine ze (λ_=>?_) (λh=>absurd rfl h)
  (apply zd (yl dp mb s h0 hok.arm0 hok.arm1 hops) hS;exact Xp;clear hS)
  (rintro v post ⟨rfl,rfl⟩ w hS;(try simp only[app]at hS);(repeat (first|refine Gp ?_|refine Gw λw hS=>?_|refine Gb λb w hS=>?_)))
  by_cases hc:s.cnt.off=true
  ·have he:s.cnt.err=8:=by unfold DS.err;rw[if_pos hc]
   rw[he,if_pos hc]
   refine ze (λh=>by cases h) (λ_=>?_)
   exact⟨_,⟨rfl,rfl⟩,DskO.iff.2 ⟨mb,m,L,hr,SL.into hS Xi⟩⟩
  ·have he:s.cnt.err=0:=by unfold DS.err;rw[if_neg hc]
   rw[he,if_neg hc]
   refine ze (λ_=>?_) (λh=>absurd rfl h)
   repeat first|refine Gp ?_|refine Gw λw hS=>?_|refine Gb λb w hS=>?_
   refine QT (key:=Value.int .i64) (val:=ptrV) (k:=f) hS Xu (keyOkI .i64) Tryz.underlying142 Tryz.underlying3 ?_
   clear hS;intro _ w hS
   repeat first|refine Gp ?_|refine Gw λw hS=>?_|refine Gb λb w hS=>?_
   have hS:=fileTake hg (SL.into hS (t:=.ob (zh FileO L)::.pt dp (dcells mb s.cnt) 144::.ob (MapO (Value.int .i64) ptrV mb (mdel m f))::F) Xi)
   have eL:delK idP L f=L.eraseIdx (cntK idP L f):=by
    unfold delK;rw[if_pos (by rw[← getK_isK,hg];rfl)]
   have hd:=hr.del f
   rw[eL]at hd
   exact⟨_,⟨rfl,rfl⟩,DskO.iff.2 ⟨mb,_,_,hd,SL.into hS Xi⟩⟩
def ReadQ(dp:Nat)(s:DS)(f:Int)(v:Value)(post:List Chunk):Prop:=match getK PF.id s.R f with
 | none=>v= .tuple #[.slice none 0 0,.bool false]∧post=[.ob (DskO dp s)]
 | some x=>∃u,v= .tuple #[u,.bool true]∧post=[.ob (DskO dp s),.ob (OwnSl u 5 1 x.b.length (x.b.map u8c))]
theorem qV(dp:Nat)(s:DS)(N:Nat)(hok:s.Ok N)(hN:N≤140737488355328)(f:Int):
  SP 126 [.pointer (some ⟨dp,0,none⟩),.int .i64 f] [.ob (DskO dp s)] (ReadQ dp s f):=by
 intro W F w hS;apply vc126;unfold Vc126;(try simp only[app]at hS)
 obtain⟨mb,m,L,hr,hS⟩:=DskO.iff.1 hS
 repeat first|refine Gp ?_|refine Gw λw hS=>?_|refine Gb λb w hS=>?_
 refine yQ hS Xh (keyOkI .i64) Tryz.underlying142 Tryz.underlying3 (λ_=>rfl) ?_
 rw[hr.get f]
 cases hg:getK idP L f with
 | none=>
  simp only[Option.map_none,Option.getD_none]
  refine ZT (zy ?_)
  exact⟨[.ob (DskO dp s)],by unfold ReadQ;rw[hr.getR f,hg];exact⟨rfl,rfl⟩,DskO.iff.2 ⟨mb,m,L,hr,SL.into hS Xi⟩⟩
 | some x=>
  simp only[Option.map_some,Option.getD_some]
  unfold ptrV
  refine ZT (zr ?_)
  have hxN:x.1.b.length≤N:=hok.len _ (by rw[← hr.eq];exact List.mem_map.2 ⟨x,List.mem_of_getElem? (getK_at hg).1,rfl⟩)
  have hS:=fileTake hg (SL.into hS (t:=.ob (zh FileO L)::.pt dp (dcells mb s) 144::.ob (MapO (Value.int .i64) ptrV mb m)::F) Xi)
  obtain⟨v0,hS⟩:=FileO.iff.1 hS
  repeat first|refine Gp ?_|refine Gw λw hS=>?_|refine Gb λb w hS=>?_
  obtain⟨a,cap,rfl,hl,_⟩:=OwnSl.at hS (t:=5) (sz:=1) (n:=x.1.b.length) (cells:=x.1.b.map u8c) Xh
  refine Zj (cs:=x.1.b.map u8c) hS (λw' c hS'=>src_own hS' (.tl Xh)) (by simp) (u8c_one _) (by omega) ?_
  clear hS;intro u w hS _
  have hS:=filePutBack hg ((FileO.iff (x:=x)).2 ⟨_,SL.into hS (t:=.pt x.2 [.slice a x.1.b.length cap,.int .i64 x.1.safe] 178::.ob (OwnSl (.slice a x.1.b.length cap) 5 1 x.1.b.length (x.1.b.map u8c))::.ob (zh FileO (L.eraseIdx (cntK idP L f)))::.ob (OwnSl u 5 1 x.1.b.length (x.1.b.map u8c))::.pt dp (dcells mb s) 144::.ob (MapO (Value.int .i64) ptrV mb m)::F) Xi⟩)
  exact⟨[.ob (DskO dp s),.ob (OwnSl u 5 1 x.1.b.length (x.1.b.map u8c))],by unfold ReadQ;rw[hr.getR f,hg];exact⟨u,rfl,rfl⟩,DskO.iff.2 ⟨mb,m,L,hr,SL.into hS Xi⟩⟩
theorem QL(dp:Nat)(s:DS)(f:Int):
  SP 213 [.pointer (some ⟨dp,0,none⟩),.int .i64 f] [.ob (DskO dp s)] (Gives (.int .i64 (lenF s.R f)) [.ob (DskO dp s)]):=by
 intro W F w hS;apply vc213;unfold Vc213;(try simp only[app]at hS)
 obtain⟨mb,m,L,hr,hS⟩:=DskO.iff.1 hS
 unfold lenF
 rw[hr.getR f]
 repeat first|refine Gp ?_|refine Gw λw hS=>?_|refine Gb λb w hS=>?_
 refine yQ hS Xh (keyOkI .i64) Tryz.underlying142 Tryz.underlying3 (λ_=>rfl) ?_
 rw[hr.get f]
 cases hg:getK idP L f with
 | none=>
  simp only[Option.map_none,Option.getD_none]
  refine QV (zr ?_)
  exact⟨_,⟨rfl,rfl⟩,DskO.iff.2 ⟨mb,m,L,hr,SL.into hS Xi⟩⟩
 | some x=>
  simp only[Option.map_some,Option.getD_some]
  unfold ptrV
  refine QV (zy ?_)
  have hS:=fileTake hg (SL.into hS (t:=.ob (zh FileO L)::.pt dp (dcells mb s) 144::.ob (MapO (Value.int .i64) ptrV mb m)::F) Xi)
  obtain⟨v0,hS⟩:=FileO.iff.1 hS
  repeat first|refine Gp ?_|refine Gw λw hS=>?_|refine Gb λb w hS=>?_
  refine zE hS (t:=5) (sz:=1) (n:=x.1.b.length) (cells:=x.1.b.map u8c) Xh ?_
  have hS:=filePutBack hg ((FileO.iff (x:=x)).2 ⟨_,hS⟩)
  exact⟨_,⟨rfl,rfl⟩,DskO.iff.2 ⟨mb,m,L,hr,SL.into hS Xi⟩⟩
theorem wf_i64{n:Int}(h : -9223372036854775808≤n∧n≤9223372036854775807):(Lit.int .i64 n).wf=true:=by
 simpa [Lit.wf,IntKind.min,IntKind.max,IntKind.signed,IntKind.bits] using h
theorem Y9(dp:Nat)(s:DS)(N:Nat)(hok:s.Ok N)(hR:s.R.length≤100000):
  SP 108 [.pointer (some ⟨dp,0,none⟩)] [.ob (DskO dp s)] (λv post=>post=[.ob (DskO dp s),.ob (OwnSl v 3 1 s.R.length (s.R.map λx=>.int .i64 x.id))]):=by
 intro W F w hS;apply vc108;unfold Vc108;(try simp only[app]at hS)
 obtain⟨mb,m,L,hr,hS⟩:=DskO.iff.1 hS
 repeat first|refine Gp ?_|refine Gw λw hS=>?_|refine Gb λb w hS=>?_
 have hml:m.length=s.R.length:=by rw[hr.rel.len,hr.len]
 refine s_keysD hS Xh (by omega) (λp hp=>?_) ?_
 ·obtain⟨x,hx,rfl⟩:=List.mem_map.1 (hr.rel.1.subset hp)
  have:=hok.ids x.1 (by rw[← hr.eq];exact List.mem_map.2 ⟨x,hx,rfl⟩)
  exact wf_i64 (by show -9223372036854775808≤idP x∧_;unfold idP;omega)
 ·clear hS;intro v w hS
  have e:(skeys m).map (Value.int .i64)=s.R.map λx=>.int .i64 x.id:=by
   rw[hr.rel.skeys,← hr.eq,List.map_map,List.map_map];rfl
  rw[e,hml]at hS
  exact⟨_,rfl,DskO.iff.2 ⟨mb,m,L,hr,SL.into hS Xi⟩⟩
theorem Qv(dp:Nat)(s:DS)(n:Int):
  SP 28 [.pointer (some ⟨dp,0,none⟩),.int .i64 n] [.ob (DskO dp s)] (Gives (.tuple #[]) [.ob (DskO dp (s.armed n))]):=by
 intro W F w hS;apply vc28;unfold Vc28;(try simp only[app]at hS)
 obtain⟨mb,m,L,hr,hS⟩:=DskO.iff.1 hS
 repeat first|refine Gp ?_|refine Gw λw hS=>?_|refine Gb λb w hS=>?_
 have hS:SL W (.pt dp (dcells mb (s.armed n)) 144::.ob (MapO (Value.int .i64) ptrV mb m)::.ob (zh FileO L)::F) w:=hS
 exact⟨_,⟨rfl,rfl⟩,DskO.iff.2 ⟨mb,m,L,hr,SL.into hS Xi⟩⟩
theorem yL(dp:Nat)(s:DS):
  SP 102 [.pointer (some ⟨dp,0,none⟩)] [.ob (DskO dp s)] (Gives (.bool s.off) [.ob (DskO dp s)]):=by
 intro W F w hS;apply vc102;unfold Vc102;(try simp only[app]at hS)
 obtain⟨mb,m,L,hr,hS⟩:=DskO.iff.1 hS
 repeat first|refine Gp ?_|refine Gw λw hS=>?_|refine Gb λb w hS=>?_
 exact⟨_,⟨rfl,rfl⟩,DskO.iff.2 ⟨mb,m,L,hr,SL.into hS Xi⟩⟩
theorem Qr(dp:Nat)(s:DS):
  SP 125 [.pointer (some ⟨dp,0,none⟩)] [.ob (DskO dp s)] (Gives (.int .i64 (s.ops:Int)) [.ob (DskO dp s)]):=by
 intro W F w hS;apply vc125;unfold Vc125;(try simp only[app]at hS)
 obtain⟨mb,m,L,hr,hS⟩:=DskO.iff.1 hS
 repeat first|refine Gp ?_|refine Gw λw hS=>?_|refine Gb λb w hS=>?_
 exact⟨_,⟨rfl,rfl⟩,DskO.iff.2 ⟨mb,m,L,hr,SL.into hS Xi⟩⟩
end Go.Proofs.YtnmhmnnadkclbaaGreat
