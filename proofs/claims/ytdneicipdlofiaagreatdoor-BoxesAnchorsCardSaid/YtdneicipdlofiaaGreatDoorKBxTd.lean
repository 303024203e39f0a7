/- Plain part: how large the texts of boxes are, and their heights. Words for the walk of a figure: what its loops keep. Words for the walk of a table: boxes whose anchors are rows of their own. -/
import Derived.Test.YtdneicipdlofiaaGreatDoorKBxW
import Derived.Test.YtdneicipdlofiaaGreatDoorKCtN
set_option maxHeartbeats 4000000
namespace Go.Proofs.YtdneicipdlofiaaGreatDoor
open List renaming getElem?_eq_getElem->joq,length_append->jp4,length_map->jp5,length_cons->jp6,mem_cons_self->jr1,length_take->jrk
open Nat renaming le_refl->joz,le_trans->jp0
open Option.some renaming inj->jp7
open Go renaming World->js1,Value->js3
set_option linter.unusedVariables false
set_option linter.unusedSimpArgs false
def bE (l:List Bx):Int:=(l.map Bx.ht).sum
theorem sO (x:Bx) (l:List Bx):bE (x::l)=x.ht+bE l:=by simp [bE]
theorem qG (a b:List Bx):bE (a++b)=bE a+bE b:=by simp [bE]
theorem LM (l:List Bx):∀ n:Int,l.foldl (fun n x=>n+x.ht) n=n+bE l:=by
 induction l with
 | nil=>intro n;simp [bE]
 | cons x l ih=>intro n;rw [List.foldl_cons,ih,sO];omega
theorem qF (l:List Bx):GQ l=bE l:=by unfold GQ;rw [LM];omega
theorem nQ {l:List Bx} (h:∀ b∈l,1<=b.ht):(l.length:Int)<=bE l:=by
 induction l with
 | nil=>simp [bE]
 | cons x l ih=>
  rw [sO,jp6];have:=h x (jr1 ..);have:=ih (fun b hb=>h b (List.mem_cons_of_mem _ hb));omega
theorem OM {l:List Bx} (h:∀ b∈l,1<=b.ht):∀ b∈l,b.ht<=bE l:=by
 induction l with
 | nil=>intro b hb;cases hb
 | cons x l ih=>
  intro b hb;rw [sO];have h1:=h x (jr1 ..);have h2:=nQ (fun b hb=>h b (List.mem_cons_of_mem _ hb):∀ b∈l,1<=b.ht);rcases List.mem_cons.1 hb with rfl | hb
  ·omega
  ·have:=ih (fun b hb=>h b (List.mem_cons_of_mem _ hb)) b hb;omega
def ttl (l:List Bx):Nat:=(l.map fun x=>x.text.size+1).sum
theorem mX (x:Bx) (l:List Bx):ttl (x::l)=x.text.size+1+ttl l:=by simp [ttl]
theorem SI (a b:List Bx):ttl (a++b)=ttl a+ttl b:=by simp [ttl]
theorem Sy {l:List Bx}:∀ b∈l,b.text.size<=ttl l:=by
 induction l with
 | nil=>intro b hb;cases hb
 | cons x l ih=>
  intro b hb;rw [mX];rcases List.mem_cons.1 hb with rfl | hb
  ·omega
  ·have:=ih b hb;omega
structure iP (n:Nat) (l:List Bx):Prop where
 h1:∀ b∈l,1<=b.ht
 ht:bE l<=2*n
 tt:ttl l<=3000000*n
theorem iP.nil (n:Nat):iP n []:=⟨fun b hb=>(by cases hb),by simp [bE];omega,by simp [ttl]⟩
theorem iP.mono {n n':Nat} {l:List Bx} (h:iP n l) (hn:n<=n'):iP n' l:=⟨h.h1,by have:=h.ht;omega,jp0 h.tt (Nat.mul_le_mul_left _ hn)⟩
theorem iP.app {n n':Nat} {a b:List Bx} (h:iP n a) (h2:iP n' b):iP (n+n') (a++b):=
 ⟨fun x hx=>(List.mem_append.1 hx).elim (h.h1 x) (h2.h1 x),by rw [qG];have:=h.ht;have:=h2.ht;omega,by rw [SI,Nat.mul_add];exact Nat.add_le_add h.tt h2.tt⟩
theorem iP.jv {n n':Nat} {a:List Bx} {r:List Bx × St} (h:iP n a) (h2:iP n' r.1):iP (n+n') (ahead a r).1:=by
 unfold ahead;split
 ·exact iP.nil _
 ·exact h.app h2
theorem Ia (st:St) (L:List Bx) (own:List ByteArray):(bO st L own).1.map (fun x=>(x.text,x.ht))=L.map (fun x=>(x.text,x.ht)):=by
 unfold bO;split
 ·rfl
 ·cases L with
  | nil=>rfl
  | cons x l=>simp only [List.map_cons,List.map_map];rfl
theorem iP.same {n:Nat} {a b:List Bx} (h:iP n a) (e:b.map (fun x=>(x.text,x.ht))=a.map (fun x=>(x.text,x.ht))):iP n b:=by
 have e1:b.map Bx.ht=a.map Bx.ht:=by have:=congrArg (List.map Prod.snd) e;simpa [List.map_map,Function.comp_def] using this
 have e2:b.map (fun x=>x.text.size+1)=a.map (fun x=>x.text.size+1):=by have:=congrArg (List.map fun z:ByteArray × Int=>z.1.size+1) e;simpa [List.map_map,Function.comp_def] using this
 refine ⟨fun x hx=>?_,by unfold bE;rw [e1];exact h.ht,by unfold ttl;rw [e2];exact h.tt⟩;have:x.ht∈a.map Bx.ht:=by rw [<- e1];exact List.mem_map_of_mem hx
 obtain ⟨y,hy,e3⟩:=List.mem_map.1 this;rw [<- e3];exact h.h1 y hy
theorem iP.leaf (st:St) {n:Nat} {L:List Bx} (own:List ByteArray) (h:iP n L):iP n (bO st L own).1:=h.same (Ia st L own)
theorem nT (p:Px) (h:Int) (keep:Nat->Bool) (ts:List ByteArray):bE (bK p h keep ts)=h*ts.length:=by
 have:∀ (r:List Nat),((r.map fun i=>Bx.new (p.text i (ts.getD i ⟨#[]⟩)) h (keep i)).map Bx.ht).sum=h*r.length:=by
  intro r;induction r with
  | nil=>simp
  | cons x r ih=>rw [List.map_cons,List.map_cons,List.sum_cons,ih,jp6];simp only [Bx.new];rw [Int.natCast_add,Int.mul_add];omega
 have h1:=this (List.range ts.length);rw [List.length_range] at h1;exact h1
theorem LP (p:Px) (i:Nat) (s:ByteArray) (P:Nat) (h1:p.first.size<=P) (h2:p.rest.size<=P):(p.text i s).size<=P+s.size:=by unfold Px.text;split<;>(rw [ByteArray.size_append];omega)
theorem Cr (p:Px) (h:Int) (keep:Nat->Bool) (ts:List ByteArray) (hh:1<=h/\h<=2) (n:Nat) (hn:ts.length<=n) (h1:p.first.size<=1000000) (h2:p.rest.size<=1000000) (hs:∀ x∈ts,x.size<=1000000):iP n (bK p h keep ts):=by
 have hb:∀ b∈bK p h keep ts,b.ht=h/\b.text.size<=2000000:=by intro b hb;unfold bK at hb;obtain ⟨i,hi,rfl⟩:=List.mem_map.1 hb;have hi2:=List.mem_range.1 hi;refine ⟨rfl,jp0 (LP p i _ 1000000 h1 h2) ?_⟩;rw [List.getD_eq_getElem?_getD,joq hi2];have:=hs _ (List.getElem_mem hi2);simp only [Option.getD_some];omega
 refine ⟨fun b hbm=>by rw [(hb b hbm).1];exact hh.1,?_,?_⟩
 ·rw [nT];have:h*(ts.length:Int)<=2*(ts.length:Int):=Int.mul_le_mul_of_nonneg_right hh.2 (by omega);omega
 ·have key:∀ (L:List Bx),(∀ b∈L,b.text.size<=2000000)->ttl L<=3000000*L.length:=by
   intro L;induction L with
   | nil=>intro _;simp [ttl]
   | cons x L ih=>
    intro hL;rw [mX,jp6,Nat.mul_add];have:=hL x (jr1 ..);have:=ih (fun b hb=>hL b (List.mem_cons_of_mem _ hb));omega
  refine jp0 (key _ (fun b hbm=>(hb b hbm).2)) (Nat.mul_le_mul_left _ ?_);rw [Si];exact hn
theorem Ib (p:Px) (s:ByteArray) (n:Nat) (hn:1<=n) (h1:p.first.size<=1000000) (hs:s.size<=1000):iP n [Bx.new (p.first++s) 1 false]:=by
 refine ⟨fun b hb=>by rw [List.mem_singleton] at hb;subst hb;exact Int.le_refl _,by simp [bE,Bx.new];omega,?_⟩;have:ttl [Bx.new (p.first++s) 1 false]<=3000000*1:=by rw [mX];show (p.first++s).size+1+0<=_;rw [ByteArray.size_append];omega
 exact jp0 this (Nat.mul_le_mul_left _ hn)
theorem LQ (li:List aj) (wd:Int):∀ x∈dB li wd,x.size<=(aj.ay li).length:=by
 intro x hx;unfold dB mI at hx;split at hx
 ·rw [List.mem_singleton] at hx;subst hx;exact Nat.zero_le _
 ·unfold qj at hx;obtain ⟨s,hs,hx⟩:=List.mem_flatMap.1 hx;have h1:=fZ _ s hs;have h2:(fq li).size=(aj.ay li).length:=by show (aj.ay li).toArray.size=_;rw [List.size_toArray]
  unfold og BH at hx;obtain ⟨j,-,rfl⟩:=List.mem_map.1 hx;have:=LU s (wE (fJ s) (Bz (dF (fJ s)) 30 wd) j) (wH (Bz (dF (fJ s)) 30 wd) j);unfold lF;omega
theorem sD (sep:List UInt8):∀ (l:List ByteArray),(lV l sep).size<=(l.map fun x=>x.size+sep.length).sum:=by
 intro l;have tl:∀ (r:List ByteArray),(Lib.joinTail sep (r.map (·.data.toList))).length=(r.map fun x=>x.size+sep.length).sum:=by
  intro r;induction r with
  | nil=>rfl
  | cons x r ih=>
   unfold Lib.joinTail at ih ⊢;rw [List.map_cons,List.map_cons,List.flatten_cons,jp4,ih,List.map_cons,List.sum_cons,jp4];have:x.data.toList.length=x.size:=Array.length_toList;omega
 show (Lib.join (l.map (·.data.toList)) sep).toArray.size<=_;rw [List.size_toArray];cases l with
 | nil=>exact Nat.zero_le _
 | cons x l=>
  rw [List.map_cons,Lib.join_cons,jp4,tl,List.map_cons,List.sum_cons];have:x.data.toList.length=x.size:=Array.length_toList;omega
theorem Am (r:ah):(jh r).size<=r.bM:=by
 obtain ⟨k,lv,i,t,d,ti,a,li,ks⟩:=r;unfold jh;refine jp0 (sD _ _) ?_;rw [ah.bM];have:∀ l:List ah,((l.map fun c=>fq (kZ c)).map fun x=>x.size+[32,124,32].length).sum<=ah.aK l:=by
  intro l;induction l with
  | nil=>rw [ah.aK];exact joz _
  | cons c l ih=>
   rw [List.map_cons,List.map_cons,List.sum_cons,JA];obtain ⟨k',lv',i',t',d',YR,a',Xk,ks'⟩:=c;rw [ah.bM];have h2:(fq (kZ (.mk k' lv' i' t' d' YR a' Xk ks'))).size=(aj.ay Xk).length:=by show (aj.ay Xk).toArray.size=_;rw [List.size_toArray]
   rw [h2];show _+3+_<=_;omega
 have:=this ks;show ((List.map (fun c=>fq (kZ c)) ks).map _).sum<=_;omega
theorem xg:∀ (L:List Bx) (rs:List ah),L.length=rs.length->(bQ L rs).map (fun x=>(x.text,x.ht))=L.map (fun x=>(x.text,x.ht))
 | [],rs,h=>by cases rs with | nil=>rfl | cons _ _=>cases h
 | x::L,[],h=>by cases h
 | x::L,r::rs,h=>by
  show (x.text,x.ht)::(bQ L rs).map _=_;rw [xg L rs (by simpa using h),List.map_cons]
theorem sG (st:St) (L:List Bx) (own:List ByteArray):(bO st L own).1.length=L.length:=(gD st L own (L.length+1) (by omega) (by omega)).2
theorem O9 (st:St) (p:Px) (ks:List ah) (n:Nat) (hn:ah.aK ks<=n) (hnm:n<=1000000) (h1:p.first.size<=1000000) (h2:p.rest.size<=1000000):iP n (iy st p ks).1:=by
 have hl:iP n (bO st (bK p 1 (fun i=>decide (i=0)&&decide (1<ks.length)) (ks.map jh)) []).1:=iP.leaf _ _ (Cr _ _ _ _ ⟨by omega,by omega⟩ _ (by rw [jp5];have:=iR ks;omega) h1 h2 (fun x hx=>by
  obtain ⟨r,hr,rfl⟩:=List.mem_map.1 hx;have a1:=Am r;obtain ⟨j,hj⟩:=List.mem_iff_getElem?.1 hr;have a2:=ah.qI ks j r hj;omega))
 have hlen:=sG st (bK p 1 (fun i=>decide (i=0)&&decide (1<ks.length)) (ks.map jh)) [];rw [Si,jp5] at hlen;unfold iy;by_cases hf:st.aV=true
 ·simp only [if_pos hf];exact hl
 ·simp only [if_neg hf];exact hl.same (xg _ _ hlen)
theorem SK {n:Nat} {p:Px} {kids:List Bx} (h:iP n kids) (hn:1<=n) (h1:p.first.size<=1000000) (n':Nat) (hn':n+1<=n'):iP n' [fV p kids]:=by
 unfold fV;split
 ·refine ⟨fun b hb=>by rw [List.mem_singleton] at hb;subst hb;exact Int.le_refl _,by simp [bE];omega,?_⟩;rw [mX];show p.first.size+1+0<=_
  omega
 ·rename_i hne
  have h2:=nQ h.h1;have h3:kids.length≠0:=fun e=>hne (List.length_eq_zero_iff.1 e)
  have h4:=h.ht;have h5:=h.tt;refine ⟨fun b hb=>?_,?_,?_⟩
  ·rw [List.mem_singleton] at hb;subst hb;show 1<=GQ kids;rw [qF];omega
  ·show ([GQ kids]:List Int).sum<=_;rw [qF];simp;omega
  ·rw [mX];show (lV (kids.map Bx.text) [10]).size+1+0<=_;have h6:=sD [10] (kids.map Bx.text);rw [List.map_map] at h6;have h7:(kids.map ((fun x:ByteArray=>x.size+[(10:UInt8)].length) ∘ Bx.text)).sum=ttl kids:=rfl;rw [h7] at h6;omega
theorem U6 (cl:ByteArray->Bool) {k lv:Int} {i t d ti:ByteArray} {a:At} {li:List aj} {ks:List ah} (h:uX cl k lv i t d ti a li ks=0) (hk:k=8):0<=lv/\lv<=999999999:=by
 subst hk;unfold uX at h;rw [if_neg (by decide),if_neg (by decide),if_neg (by decide),if_neg (by decide),if_neg (by decide),if_pos (.inr rfl)] at h;split at h
 ·cases h
 ·split at h
  ·cases h
  ·rename_i h2
   constructor<;>(rcases Classical.em (lv<0) with h5 | h5<;>rcases Classical.em (999999999<lv) with h6 | h6<;>first | omega | exact absurd ⟨rfl,.inl h5⟩ h2 | exact absurd ⟨rfl,.inr h6⟩ h2)
mutual
theorem ttB (W:Int) (hW:1<=W/\W<=1048576) (cl:ByteArray->Bool):∀ (x:ah) (par:Int) (dp:Nat) (st:St) (p:Px),x.err cl par dp=0->p.first.size+x.bM<=1000000->p.rest.size+x.bM<=1000000->iP x.bM (ah.dG W st p x).1
 | .mk k lv i t d ti a li ks,par,dp,st,p,h,q1,q2=>by
  obtain ⟨e1,e2,e3⟩:=Sn cl h;have hv:(ah.mk k lv i t d ti a li ks).bM=30+i.size+2*t.size+2*(aj.ay li).length+(bJ (aj.aA li)).length+ah.aK ks:=by rw [ah.bM]
  rw [hv] at q1 q2;rw [ah.dG,hv];split
  ·split
   ·exact iP.nil _
   ·have hl:=(jr li p W hW).1;exact iP.leaf _ _ (Cr _ _ _ _ (by split<;>omega) _ (by omega) (by omega) (by omega) (fun x hx=>by have:=LQ li _ x hx;omega))
  ·split
   ·have h1:=jM (gT t);have h2:=eG t;exact iP.leaf _ _ (Cr _ _ _ _ ⟨by omega,by omega⟩ _ (by omega) (by omega) (by omega) (fun x hx=>by have:=fZ _ x hx;omega))
   ·split
    ·exact iP.leaf _ _ (Ib _ _ _ (by omega) (by omega) (by show (3:Nat)<=_;omega))
    ·split
     ·exact O9 _ _ _ _ (by omega) (by omega) (by omega) (by omega)
     ·split
      ·exact (U7 W hW cl ks k (dp+1) st _ e3 (by show (p.first++GR).size+_<=_;rw [ByteArray.size_append,show GR.size=2 from rfl];omega) (by show (p.rest++GR).size+_<=_;rw [ByteArray.size_append,show GR.size=2 from rfl];omega)).mono (by omega)
      ·split
       ·rename_i hk
        exact (ttT W hW cl ks k (dp+1) st p k lv 0 (fun h8=>U6 cl e1 h8) e3 (by omega) (by omega) (by omega)).mono (by omega)
       ·split
        ·split
         ·have h:=U7 W hW cl ks k (dp+1) { st with aV:=true } p e3 (by omega) (by omega);simp only;split
          ·exact iP.nil _
          ·refine iP.leaf _ _ ?_;exact SK (h.mono (show ah.aK ks<=ah.aK ks+1 by omega)) (by omega) (by omega) _ (by omega)
         ·have key:∀ s0:St,iP (30+i.size+2*t.size+2*(aj.ay li).length+(bJ (aj.aA li)).length+ah.aK ks) (if (ah.bX W s0 p ks).1≠[]\/a.id.data.toList=[]\/(ah.bX W s0 p ks).2.err≠0 then ah.bX W s0 p ks else bO (ah.bX W s0 p ks).2 [Bx.new (p.first++⟨#[]⟩) 1 false] []).1:=by
           intro s0;have h:=U7 W hW cl ks k (dp+1) s0 p e3 (by omega) (by omega);split
           ·exact h.mono (by omega)
           ·exact iP.leaf _ _ (Ib _ _ _ (by omega) (by omega) (by show (0:Nat)<=_;omega))
          exact key _
        ·split
         ·refine (U7 W hW cl ks k (dp+1) st _ e3 ?_ ?_).mono (by omega)
          ·show (p.first++_).size+_<=_;rw [ByteArray.size_append,ByteArray.size_append,ByteArray.size_append,show (⟨#[91]⟩:ByteArray).size=1 from rfl,show (⟨#[93,32]⟩:ByteArray).size=2 from rfl];omega
          ·show (p.rest++rW _).size+_<=_;rw [ByteArray.size_append,mV,ByteArray.size_append,ByteArray.size_append,show (⟨#[91]⟩:ByteArray).size=1 from rfl,show (⟨#[93,32]⟩:ByteArray).size=2 from rfl];omega
         ·exact iP.nil _
theorem U7 (W:Int) (hW:1<=W/\W<=1048576) (cl:ByteArray->Bool):∀ (l:List ah) (par:Int) (dp:Nat) (st:St) (p:Px),ah.aT cl par dp l=0->p.first.size+ah.aK l<=1000000->p.rest.size+ah.aK l<=1000000->iP (ah.aK l) (ah.bX W st p l).1
 | [],par,dp,st,p,_,_,_=>by rw [ah.bX];exact iP.nil _
 | x::l,par,dp,st,p,he0,q1,q2=>by
  have hx:=(uY cl par dp (x::l)).1 he0 x (jr1 ..);have hl:=(uY cl par dp l).2 (fun b hb=>(uY cl par dp (x::l)).1 he0 b (List.mem_cons_of_mem _ hb));rw [JA] at q1 q2;have h:=ttB W hW cl x par dp st p hx (by omega) (by omega);rw [JA];by_cases he:(x.dG W st p).2.lim.err=0
  ·rw [sI he];exact iP.jv h (U7 W hW cl l par dp _ _ hl (by show p.rest.size+_<=_;omega) (by show p.rest.size+_<=_;omega))
  ·rw [kL he];exact iP.nil _
theorem ttT (W:Int) (hW:1<=W/\W<=1048576) (cl:ByteArray->Bool):∀ (l:List ah) (par:Int) (dp:Nat) (st:St) (p:Px) (k lv:Int) (i:Nat),(k=8->0<=lv/\lv<=999999999)->ah.aT cl par dp l=0->i+ah.aK l<=1000000->p.first.size+ah.aK l<=1000000->p.rest.size+ah.aK l<=1000000->iP (ah.aK l) (ah.oK W st p k lv i l).1
 | [],par,dp,st,p,k,lv,i,_,_,_,_,_=>by rw [ah.oK];exact iP.nil _
 | x::l,par,dp,st,p,k,lv,i,hlv,he0,hi,q1,q2=>by
  have hx:=(uY cl par dp (x::l)).1 he0 x (jr1 ..);have hl:=(uY cl par dp l).2 (fun b hb=>(uY cl par dp (x::l)).1 he0 b (List.mem_cons_of_mem _ hb));rw [JA] at q1 q2 hi;have hv:=Xv x;have hm:=wN k lv i hlv (by omega);have h:=ttI W hW cl x par dp st (p.mark (dn k lv i)) hx (by show (p.first++_).size+_<=_+22;rw [ByteArray.size_append];omega) (by show (p.rest++rW _).size+_<=_+22;rw [ByteArray.size_append,mV];omega);rw [JA];by_cases he:(x.tJ W st (p.mark (dn k lv i))).2.err=0
  ·rw [sK he];exact iP.jv h (ttT W hW cl l par dp _ _ k lv _ hlv hl (by omega) (by show p.rest.size+_<=_;omega) (by show p.rest.size+_<=_;omega))
  ·rw [kM he];exact iP.nil _
theorem ttI (W:Int) (hW:1<=W/\W<=1048576) (cl:ByteArray->Bool):∀ (x:ah) (par:Int) (dp:Nat) (st:St) (q:Px),x.err cl par dp=0->q.first.size+x.bM<=1000000+22->q.rest.size+x.bM<=1000000+22->iP x.bM (ah.tJ W st q x).1
 | .mk k lv i t d ti a li ks,par,dp,st,q,h,q1,q2=>by
  have hv:(ah.mk k lv i t d ti a li ks).bM=30+i.size+2*t.size+2*(aj.ay li).length+(bJ (aj.aA li)).length+ah.aK ks:=by rw [ah.bM]
  obtain ⟨e1,e2,e3⟩:=Sn cl h;rw [hv] at q1 q2;rw [ah.tJ,hv];split
  ·exact iP.leaf _ _ (Ib _ _ _ (by omega) (by omega) (by show (0:Nat)<=_;omega))
  ·exact (U7 W hW cl ks k (dp+1) st q e3 (by omega) (by omega)).mono (by omega)
end
open Go.RowKit Go.Shelf
attribute [local go_sem] Oper.semAt_some
def mq (l:List ah):List ByteArray:=l.flatMap fun b=>aW (Uy b) (kZ b)
mutual
theorem Ic:∀ (x:ah),mq x.each=x.ids
 | .mk k lv i t d ti a li ks=>by
  rw [ah.each,ah.ids];show aW a li++mq (ah.aS ks)=_;rw [mU ks];rfl
theorem mU:∀ (l:List ah),mq (ah.aS l)=ah.aN l
 | []=>by rw [ah.aS,ah.aN];rfl
 | x::l=>by
  rw [ah.aS,ah.aN,<- Ic x,<- mU l];unfold mq;rw [List.flatMap_append]
end
def BX (b:ah):Prop:=(bJ (aj.aA (kZ b))).length<=100000
theorem Eo (a:At) (li:List aj) (h:(bJ (aj.aA li)).length<=100000):(aW a li).length<=100001:=by unfold aW ig;rw [jp4];split<;>simp<;>omega
theorem Ak {ok:Nat->Prop} {w:js1}:∀ (pre:List (zl ok w BX)),(mq (iQ pre)).length<=100001*pre.length
 | []=>by simp [iQ,mq]
 | x::pre=>by
  have h:=Ak pre;have h2:=Eo (Uy x.1.blk) (kZ x.1.blk) x.2.2;unfold iQ mq at h ⊢;rw [List.map_cons,List.flatMap_cons,jp4,jp6,Nat.mul_add];omega
mutual
theorem Pb:∀ (x:ah),x.each.length<=x.bM
 | .mk k lv i t d ti a li ks=>by
  rw [ah.bM,ah.each,jp6];have:=sF ks;omega
theorem sF:∀ (l:List ah),(ah.aS l).length<=ah.aK l
 | []=>by rw [ah.aS];exact Nat.zero_le _
 | x::l=>by
  rw [ah.aS,JA,jp4];have:=Pb x;have:=sF l;omega
end
structure zk (o N0:Nat) (W W':js1):Prop where
 os:W'.os=W.os
 tape:W'.tape=W.tape
 output:W'.output=W.output
 size:W.heap.size<=W'.heap.size
 blk:∀ b,b<N0->b≠o->W'.heap[b]?=W.heap[b]?
 MZ:∀ (b:Nat) (cs:Array js3) (t:TypeId) (g:Nat × Nat),W.heap[b]?=some (Obj.cells cs t g)->t≠35->t≠9->W'.heap[b]?=some (Obj.cells cs t g)
section
variable {o N0:Nat} {A B C W W':js1}
theorem zk.refl (o N0:Nat) (W:js1):zk o N0 W W:=⟨rfl,rfl,rfl,joz _,fun _ _ _=>rfl,fun _ _ _ _ h _ _=>h⟩
theorem zk.trans (h:zk o N0 A B) (k:zk o N0 B C):zk o N0 A C:=
 ⟨k.os.trans h.os,k.tape.trans h.tape,k.output.trans h.output,jp0 h.size k.size,fun b h1 h2=>(k.blk b h1 h2).trans (h.blk b h1 h2),fun b cs t g h1 h2 h3=>k.MZ b cs t g (h.MZ b cs t g h1 h2 h3) h2 h3⟩
theorem zk.grown {row:Option Nat} (h:W.grownBy W' row) (hS:N0<=W.heap.size) (hr:∀ r,row=some r->N0<=r/\∃ x:Obj,W.heap[r]?=some x/\x.isCells=false):zk o N0 W W':=
 ⟨h.os,h.tape,h.output,h.size,fun b h1 _=>h.block b (by omega) (fun e=>by have:=(hr b e.symm).1;omega),fun b cs t g h1 _ _=>(h.block b (Array.getElem?_eq_some_iff.1 h1).1 (fun e=>by
  obtain ⟨-,x,k1,k2⟩:=hr b e.symm;rw [h1] at k1;cases k1;cases k2)).trans h1⟩
theorem zk.obj (o N0:Nat) (W:js1) (l:Nat) (x x':Obj) (hl:N0<=l) (ho:W.heap[l]?=some x) (hc:x.isCells=false):zk o N0 W (W.putObj l x'):=by
 refine ⟨rfl,rfl,rfl,by simp [World.putObj],fun b h1 _=>World.putObj_heap_other (by omega),fun b cs t g h1 _ _=>?_⟩;refine (World.putObj_heap_other ?_).trans h1;rintro rfl;rw [ho] at h1;cases h1
 cases hc
theorem zk.ok {ok:Nat->Prop} (hok:∀ b,ok b->b<N0/\b≠o):EO ok (zk o N0) where
 below h:=⟨h.os,h.tape,h.output,h.size,fun b hb=>h.blk b (hok b hb).1 (hok b hb).2⟩
 YT h hb:=h.MZ _ _ _ _ hb (by decide) (by decide)
 Xw h hb:=h.MZ _ _ _ _ hb (by decide) (by decide)
end
structure Xx (o N0:Nat) (W0:js1) (L:List ByteArray) (v:js3) (W:js1):Prop where
 bx:aH o v 35 W
 own:W.ownsRow N0 9 1 v L.length (L.map Value.string)
 kp:zk o N0 W0 W
section
variable {o N0:Nat} {W0 W W' w1 w2:js1} {L M:List ByteArray} {v v':js3}
theorem Xx.UM (h:Xx o N0 W0 L v W) {row:Option Nat} (hN:N0<=W.heap.size) (hg:W.grownBy W' row) (hr:∀ r,row=some r->N0<=r/\∃ x:Obj,W.heap[r]?=some x/\x.isCells=false):Xx o N0 W0 L v W':=by
 refine ⟨(hg.block o h.bx.lt (fun e=>?_)).trans h.bx,h.own.kept hg ?_,h.kp.trans (zk.grown hg hN hr)⟩
 ·obtain ⟨-,x,k1,k2⟩:=hr o e.symm;have h1:=h.bx;unfold aH at h1;rw [h1] at k1;cases k1;cases k2
 ·cases e:v.ownBlock with
  | none=>exact .inl rfl
  | some g=>
   refine .inr fun e2=>?_
   obtain ⟨-,x,k1,k2⟩:=hr g e2.symm;obtain ⟨c,fz,h1⟩:=Lib.ownsRow_kind h.own g e;rw [h1] at k1;cases k1;cases k2
theorem Xx.push (h:Xx o N0 W0 L v W) (ho:o<N0) (hN:N0<=W.heap.size) (hb:Below W.heap.size W w1) (hown:w2.ownsRow N0 9 1 v' (L.length+M.length) (L.map Value.string++M.map Value.string)) (hg:w1.grownBy w2 v.ownBlock) (hat:v'.ownBlock=v.ownBlock\/v'.ownBlock=some w1.heap.size) (B:Nat):Xx o N0 W0 (L++M) v' (w2.setCell ⟨o,0,none⟩ v')/\zk o N0 W (w2.setCell ⟨o,0,none⟩ v')/\KeepsFrom B W (w2.setCell ⟨o,0,none⟩ v'):=by
 have hol:=h.bx.lt;have hno:v.ownBlock≠some o:=oz (T':=35) (cs:=[v]) h.own h.bx (by decide);have hz1:=hb.size;have hz2:=hg.size;have jj2:v'.ownBlock≠some o:=by
  rcases hat with e | e
  ·rw [e];exact hno
  ·rw [e];intro e2;have:=jp7 e2;omega
 have same:∀ b,b<W.heap.size->b≠o->v.ownBlock≠some b->(w2.setCell ⟨o,0,none⟩ v').heap[b]?=W.heap[b]?:=fun b h1 h2 h3=>
  (Below.heap_setCell w2 ⟨o,0,none⟩ v' b h2).trans ((hg.block b (by omega) (fun e=>h3 e.symm)).trans (hb.block b h1))
 have hsz:(w2.setCell ⟨o,0,none⟩ v').heap.size=w2.heap.size:=by simp [World.setCell]
 have bx2:aH o v 35 w2:=(hg.block o (by omega) (fun e=>hno e.symm)).trans ((hb.block o hol).trans h.bx);have kp:zk o N0 W (w2.setCell ⟨o,0,none⟩ v'):=by
  refine ⟨hg.os.trans hb.os,hg.tape.trans hb.tape,hg.output.trans hb.output,by omega,fun b h1 h2=>same b (by omega) h2 (fun e=>by have:=(h.own.lt b e).1;omega),fun b cs t g k1 k2 k3=>(same b (Array.getElem?_eq_some_iff.1 k1).1 (fun e=>?_) (fun e=>?_)).trans k1⟩
  ·have hx:=h.bx;unfold aH at hx;rw [<- e,k1] at hx;cases hx;exact k2 rfl
  ·obtain ⟨c,fz,hc⟩:=Lib.ownsRow_kind h.own b e;rw [k1] at hc;cases hc;exact k3 rfl
 refine ⟨⟨bx2.set v',?_,h.kp.trans kp⟩,kp,⟨by omega,fun b x _ k1 k2=>?_⟩⟩
 ·have:=dh hown (aM.set w2 o 0 v') (fun g e e'=>jj2 (by rw [<- e'];exact e));rw [jp4,List.map_append];exact this
 ·refine (same b (Array.getElem?_eq_some_iff.1 k1).1 (fun e=>?_) (fun e=>?_)).trans k1
  ·have hx:=h.bx;unfold aH at hx;rw [<- e,k1] at hx;cases hx;cases k2
  ·obtain ⟨c,fz,hc⟩:=Lib.ownsRow_kind h.own b e;rw [k1] at hc;cases hc;cases k2
end
def ZO (o N0:Nat) (W0:js1) {ok:Nat->Prop} {w:js1} (pre:List (zl ok w BX)) (W:js1):Prop:=∃ v,Xx o N0 W0 (mq (iQ pre)) v W
theorem ZO.own {o N0:Nat} {W0:js1} {ok:Nat->Prop} {w:js1} (hz:N0=W0.heap.size):OwnFrom N0 (ZO o N0 W0 (ok:=ok) (w:=w)):=fun s W W' row ⟨v,h⟩ hg hr=>⟨v,h.UM (by have:=h.kp.size;omega) hg hr⟩
def BV.cF (x:BV):List js3:=[.int .i64 x.kd,.int .i64 x.lv,.string x.i,.string x.t,.string x.d,.string x.ti,.string x.at_.id,x.vc,x.vp,x.vl,x.vk]
theorem RB {P:Program} {c:Code} {Q:Exit->Act->js1->Prop} {a:Act} {w:js1} (h:∀ T,T=a.tmps->c.wp P Q ⟨T,a.defers⟩ w):c.wp P Q a w:=h _ rfl
def UO (TM:Array js3) (x:BV) (Bx:Nat):Act:=⟨(TM.setIfInBounds 74 x.enc).setIfInBounds 14 (.pointer (some ⟨Bx,0,none⟩)),[]⟩
def FoX (N0:Nat) (TM:Array js3) (x:BV) (a':Act) (W:js1):Prop:=∃ Bx,N0<=Bx/\CB 40 Bx x.cF W/\a'=UO TM x Bx
theorem FoX.own {N0 B:Nat} {TM:Array js3} {x:BV} {a':Act}:OwnFrom B (fun (_:Unit) W=>FoX N0 TM x a' W):=fun _ W W' row ⟨Bx,h1,h2,h3⟩ hg hr=>
 ⟨Bx,h1,(hg.block Bx h2.lt (fun e=>by
  obtain ⟨_,o,k1,k2⟩:=hr Bx e.symm;unfold CB at h2;rw [h2] at k1;cases k1;cases k2)).trans h2,h3⟩
mutual
theorem SL:∀ (x:ah),x.ids.length<=x.bM
 | .mk k lv i t d ti a li ks=>by
  have h2:=wh ks;have h3:(ig a).length<=1:=by unfold ig;split<;>simp
  rw [ah.ids,ah.bM,jp4,jp4];omega
theorem wh:∀ (l:List ah),(ah.aN l).length<=ah.aK l
 | []=>by rw [ah.aN];exact Nat.zero_le _
 | x::l=>by
  have h1:=SL x;have h2:=wh l;rw [ah.aN,JA,jp4];omega
end
theorem ZM {fn:Func} {R:Ending->js1->Prop} {a:Act} {w:js1} {v:js3} (hd:a.defers=[]) (hr:(results fn a.tmps).run Tryz.prog w=.ok v w) (h:R (.returned v) w):bodyPostM Fence.wide 3 Tryz.prog fn R .ret a w:=by show LeavesInM _ _ _ _ _ _ a.defers _ _;rw [hd];unfold LeavesInM LeavesIn;exact ⟨v,hr,h⟩
theorem jh5 {n:Nat} {fn:Func} {R:Ending->js1->Prop} {a:Act} {w:js1} {v:js3} {D:Nat} (hd:a.defers=[{ target:=.collected D,args:=#[] }]) (hf:w.heap[D]?=some (.deferred (some []))) (hr:∀ w',(results fn a.tmps).run Tryz.prog w'=.ok v w') (h:R (.returned v) (w.putObj D (.deferred none))):bodyPostM Fence.wide n Tryz.prog fn R .ret a w:=by show LeavesInM _ _ _ _ _ _ a.defers _ _;rw [hd];refine ⟨by simp,.inl ⟨D,_,rfl,run_takeDeferred hf,?_⟩⟩;exact ⟨v,hr _,h⟩
theorem EP {w:js1} {B:Nat} {e:TypeId} {k:Nat} {v:js3} {n:Nat} {xs:List js3} (h:w.ownsRow B e k v n xs) {D:Nat} {o':Obj} {x:Obj} (hf:w.heap[D]?=some x) (hx:x.isCells=false):(w.putObj D o').ownsRow B e k v n xs:=by
 obtain ⟨h1,h2⟩:=h;refine ⟨h1,?_⟩;rcases h2 with h2 | ⟨g,cap,cur,rfl,r2,r3,r4⟩
 ·exact .inl h2
 ·refine .inr ⟨g,cap,cur,rfl,r2,(World.putObj_heap_other (fun e=>?_)).trans r3,r4⟩;subst e;rw [r3] at hf;cases hf;cases hx
theorem aI.jh6 {m:Nat} {W:Int} {w w':js1} {vp:js3} {r:List Bx × St} {e:Ending} {D:Nat} {x o':Obj} (h:aI m W w vp r e w') (hD:w.heap.size<=D) (hf:w'.heap[D]?=some x) (hx:x.isCells=false):aI m W w vp r e (w'.putObj D o'):=by
 obtain ⟨v,rows,bS,rfl,hr,hm,hv,ho,hF⟩:=h;have hsz:(w'.putObj D o').heap.size=w'.heap.size:=by simp [World.putObj]
 have hne:∀ (b:Nat),(∃ (j:Nat) (u:js3),w'.cell? ⟨b,j,none⟩=some u)->b≠D:=fun b ⟨j,u,hc⟩ e=>by subst e;exact SN hf hx j u hc
 refine ⟨v,rows,bS,rfl,?_,⟨?_,EP hm.own hf hx⟩,hv,ho,⟨hF.os,hF.tape,hF.output,by rw [hsz];exact hF.size,fun b hb hn=>(World.putObj_heap_other (by omega)).trans (hF.blk b hb hn)⟩⟩
 ·rw [hsz];exact aO.l6 (by rw [hsz];exact hr.1) (EP hr.own hf hx) (aL.AQ (by rw [hsz];exact joz _) (fun b _ _ hc=>World.putObj_heap_other (hne b hc)) _ _ hr.red) hr.2.len hr.2.oU hr.le (by rw [hsz];exact hr.2.Uz)
 ·have hc:=hm.cb;have h0:m≠D:=fun e=>by
   subst e;unfold CB at hc;rw [hc] at hf;cases hf;cases hx
  exact (World.putObj_heap_other h0).trans hc
theorem aO.lit (w:js1) (x:Bx) (hx:x.an=[]):aO 54 6 (fun _=>False) w.heap.size (w.heap.size+1) [x.d] [bG x] (.slice (some ⟨w.heap.size,0,none⟩) 1 1) (w.alloc (.cells (bG x).toArray 54)):=by
 have hz:(w.alloc (.cells (bG x).toArray 54)).heap.size=w.heap.size+1:=World.size_alloc _ _;have hl:(bG x).length=6:=rfl;have hf:([bG x]:List (List js3)).flatten=bG x:=by simp
 refine aO.l6 (by omega) ⟨by rw [hf];exact hl,.inr ⟨w.heap.size,1,(bG x).toArray,rfl,joz _,heap_alloc_new w _,joz _,by unfold maxLen;omega,rfl,by rw [hf];exact List.take_of_length_le (by rw [hl];exact joz _)⟩⟩ ?_ (fun r hr=>by rw [List.mem_singleton] at hr;subst hr;exact hl) (fun g hg=>?_) (by omega) (by omega)
 ·refine aL.one (Bx.l6 x ?_);rw [hx];exact Rd.aR _ _ _
 ·have hg:w.heap.size=g:=by simpa [Value.ownBlock] using hg
  omega
def FlR (Q:Nat) (w5:js1) (p:Px) (L:List Bx) (vt vi:js3) (wr:js1):Prop:=
 ∃ k:Nat,k<=L.length/\vi=.int .i64 k/\wr.ownsRow (Q+1) 9 1 vt k ((L.take k).map fun x=>Value.string x.text)/\CB 54 Q (tL p.first (bE (L.take k)) 0 false true (.slice none 0 0)) wr/\Below Q w5 wr/\Q<wr.heap.size
open Go.RowKit Go.Shelf
def AU:List Bx->List js3->List (List js3)
 | x::L,va::dY=>tL x.text x.ht x.gr x.keep x.fl va::AU L dY
 | _,_=>[]
theorem pE:∀ (L:List Bx) (dY:List js3) (i:Nat) (x:Bx) (va:js3),L[i]?=some x->dY[i]?=some va->(AU L dY)[i]?=some (tL x.text x.ht x.gr x.keep x.fl va)
 | y::L,vb::dY,0,x,va,h1,h2=>by
  simp at h1 h2;subst h1 h2;rfl
 | y::L,vb::dY,i+1,x,va,h1,h2=>by
  rw [AU,List.getElem?_cons_succ];exact pE L dY i x va (by simpa using h1) (by simpa using h2)
 | [],dY,i,x,va,h1,h2=>by simp at h1
 | y::L,[],i,x,va,h1,h2=>by simp at h2
theorem lI:∀ (L:List Bx) (dY:List js3),∀ r∈AU L dY,r.length=6
 | x::L,va::dY,r,hr=>by
  rw [AU] at hr;rcases List.mem_cons.1 hr with rfl | hr
  ·rfl
  ·exact lI L dY r hr
 | [],dY,r,hr=>by cases dY<;>simp [AU] at hr
 | x::L,[],r,hr=>by simp [AU] at hr
theorem xk:∀ (L:List Bx) (dY:List js3) (i:Nat) (x:Bx) (va vb:js3) (an:List ByteArray),L[i]?=some x->dY[i]?=some va->AU (L.set i { x with an:=an }) (dY.set i vb)=(AU L dY).set i ((tL x.text x.ht x.gr x.keep x.fl va).set 5 vb)
 | y::L,vc::dY,0,x,va,vb,an,h1,h2=>by
  simp at h1 h2;subst h1 h2;rfl
 | y::L,vc::dY,i+1,x,va,vb,an,h1,h2=>by
  rw [List.set_cons_succ,List.set_cons_succ,AU,AU,List.set_cons_succ,xk L dY i x va vb an (by simpa using h1) (by simpa using h2)]
 | [],dY,i,x,va,vb,an,h1,h2=>by simp at h1
 | y::L,[],i,x,va,vb,an,h1,h2=>by simp at h2
structure yN (m N g c:Nat) (w0:js1) (vp:js3) (L:List Bx) (dY:List js3) (w:js1):Prop where
 len:dY.length=L.length
 own:w.ownsRow N 54 6 (.slice (some ⟨g,0,none⟩) L.length c) L.length (AU L dY).flatten
 each:∀ (i:Nat) (x:Bx) (va:js3),L[i]?=some x->dY[i]?=some va->w.ownsRow m 9 1 va x.an.length (x.an.map Value.string)
 dis:∀ (i j:Nat) (vi vj:js3) (b:Nat),i≠j->dY[i]?=some vi->dY[j]?=some vj->vi.ownBlock=some b->vj.ownBlock≠some b
 ok:∀ (i:Nat) (va:js3) (b:Nat),dY[i]?=some va->va.ownBlock=some b->vp.ownBlock=some b\/w0.heap.size<=b
 fr:aM (fun b=>b=m\/vp.ownBlock=some b) w0 w
 le:w0.heap.size<=N
 mb:∃ cs,CB 84 m cs w
section
variable {m N g c:Nat} {w0 w w1 w2:js1} {vp:js3} {L:List Bx} {dY:List js3}
theorem yN.gl (h:yN m N g c w0 vp L dY w):N<=g/\g<w.heap.size:=h.own.lt g rfl
theorem yN.below (h:yN m N g c w0 vp L dY w) (hb:Below w.heap.size w w1):yN m N g c w0 vp L dY w1:=
 ⟨h.len,zY h.own hb,fun i x va h1 h2=>zY (h.each i x va h1 h2) hb,h.dis,h.ok,h.fr.trans (aM.of_below hb (fun _=>False)) (fun _ _ e=>e.elim),h.le,by obtain ⟨cs,hc⟩:=h.mb;exact ⟨cs,hc.below hb⟩⟩
theorem yN.cell (h:yN m N g c w0 vp L dY w) {i:Nat} {x:Bx} {va:js3} (hx:L[i]?=some x) (hv:dY[i]?=some va):w.cell? ⟨g,i*6+5,none⟩=some va:=by
 have h1:=pE L dY i x va hx hv;have h2:=flat_get 6 (AU L dY) (lI L dY) i 5 _ va h1 rfl;have h3:=h.own.cells (g:=g) rfl (i*6+5) va h2;have e:((⟨g,0,none⟩:Addr).add (i*6+5))=⟨g,i*6+5,none⟩:=by unfold Addr.add;split<;>simp_all
 rwa [e] at h3
theorem yN.push (h:yN m N g c w0 vp L dY w) {i:Nat} {x:Bx} {va zn:js3} {M:List ByteArray} (hx:L[i]?=some x) (hv:dY[i]?=some va) (hb:Below w.heap.size w w1) (hown:w2.ownsRow m 9 1 zn (x.an.length+M.length) (x.an.map Value.string++M.map Value.string)) (hg:w1.grownBy w2 va.ownBlock) (hat:zn.ownBlock=va.ownBlock\/zn.ownBlock=some w1.heap.size) : yN m N g c w0 vp (L.set i { x with an:=x.an++M }) (dY.set i zn) (w2.setCell ⟨g,i*6+5,none⟩ zn):=by
 have hi:i<L.length:=(List.getElem?_eq_some_iff.1 hx).1;have hiv:i<dY.length:=(List.getElem?_eq_some_iff.1 hv).1;have h1:=h.below hb;have hz1:=hb.size;have hz2:=hg.size;have hgl:=h.gl;have hnew:=hown.lt;have hva:=h1.each i x va hx hv;have YS:va.ownBlock≠some g:=fun e=>iM hva h1.own (by decide) g e rfl
 have jj3:zn.ownBlock≠some g:=fun e=>by
  rcases hat with h2 | h2
  ·exact YS (h2 ▸ e)
  ·rw [h2] at e;have:=jp7 e;omega
 have jj4:w2.ownsRow N 54 6 (.slice (some ⟨g,0,none⟩) L.length c) L.length (AU L dY).flatten:=h1.own.kept hg (.inr (fun e=>YS e.symm));have fsz:(w2.setCell ⟨g,i*6+5,none⟩ zn).heap.size=w2.heap.size:=by simp [World.setCell]
 have hrow:=pE L dY i x va hx hv;refine ⟨by rw [List.length_set,List.length_set];exact h.len,?_,?_,?_,?_,?_,h.le,?_⟩
 ·have h3:=(jj4.stored (i*6+5) zn).1;rw [vP 6 (AU L dY) (lI L dY) i 5 _ zn hrow (by decide)] at h3;rw [List.length_set,xk L dY i x va zn _ hx hv];exact h3
 ·intro j y vy hy Sg;by_cases e:j=i
  ·subst e;rw [List.getElem?_set_self hi] at hy;rw [List.getElem?_set_self hiv] at Sg;obtain rfl:=jp7 hy;obtain rfl:=jp7 Sg;have:=dh hown (aM.set w2 g (j*6+5) zn) (fun b eb e'=>jj3 (by rw [<- e'];exact eb));show World.ownsRow _ _ _ _ _ (x.an++M).length ((x.an++M).map Value.string);rw [jp4,List.map_append];exact this
  ·rw [List.getElem?_set_ne (fun h=>e h.symm)] at hy Sg;have h4:=h1.each j y vy hy Sg;refine dh (h4.kept hg ?_) (aM.set w2 g (i*6+5) zn) (fun b eb e'=>?_)
   ·cases jj5:vy.ownBlock with
    | none=>exact .inl rfl
    | some b=>exact .inr (fun e2=>h.dis j i vy va b e Sg hv jj5 e2.symm)
   ·have e':b=g:=e';subst e';exact iM h4 h1.own (by decide) b eb rfl
 ·intro a b YU vb1 bb hab h5 h6 h7;by_cases ea:a=i
  ·subst ea;rw [List.getElem?_set_self hiv] at h5;obtain rfl:=jp7 h5;rw [List.getElem?_set_ne hab] at h6;rcases hat with h8 | h8
   ·rw [h8] at h7;exact h.dis a b va vb1 bb hab hv h6 h7
   ·rw [h8] at h7;intro e2;obtain ⟨y,hy⟩:∃ y,L[b]?=some y:=⟨_,joq (by have:=(List.getElem?_eq_some_iff.1 h6).1;rw [<- h.len];exact this)⟩;have:=((h1.each b y vb1 hy h6).lt bb e2).2;have:=jp7 h7;omega
  ·rw [List.getElem?_set_ne (fun h=>ea h.symm)] at h5;by_cases eb:b=i
   ·subst eb;rw [List.getElem?_set_self hiv] at h6;obtain rfl:=jp7 h6;rcases hat with h8 | h8
    ·rw [h8];exact h.dis a b YU va bb hab h5 hv h7
    ·rw [h8];intro e2;obtain ⟨y,hy⟩:∃ y,L[a]?=some y:=⟨_,joq (by have:=(List.getElem?_eq_some_iff.1 h5).1;rw [<- h.len];exact this)⟩;have:=((h1.each a y YU hy h5).lt bb h7).2;have:=jp7 e2;omega
   ·rw [List.getElem?_set_ne (fun h=>eb h.symm)] at h6;exact h.dis a b YU vb1 bb hab h5 h6 h7
 ·intro a YU bb h5 h7;by_cases ea:a=i
  ·subst ea;rw [List.getElem?_set_self hiv] at h5;obtain rfl:=jp7 h5;rcases hat with h8 | h8
   ·rw [h8] at h7;exact h.ok a va bb hv h7
   ·rw [h8] at h7;have:=jp7 h7;have:=h1.fr.size;exact .inr (by omega)
  ·rw [List.getElem?_set_ne (fun h=>ea h.symm)] at h5;exact h.ok a YU bb h5 h7
 ·refine (h1.fr.trans (aM.grown hg) (fun b hlt e=>?_)).trans (aM.set w2 g (i*6+5) zn) (fun b hlt e=>?_)
  ·rcases h.ok i va b hv e with h8 | h8
   ·exact .inr h8
   ·omega
  ·have e:b=g:=e;have:=h.le;omega
 ·obtain ⟨cs,hc⟩:=h1.mb;have hm1:va.ownBlock≠some m:=oz hva hc (by decide);have hm2:m≠g:=fun e=>by
   subst e;exact oz h1.own hc (by decide) rfl
  exact ⟨cs,((hc.fr (aM.grown hg) hm1).fr (aM.set w2 g (i*6+5) zn) hm2)⟩
theorem yN.maker {cs:List js3} (h:yN m N g c w0 vp L dY w) {i:Nat} {x:Bx} {va zn:js3} (hx:L[i]?=some x) (hv:dY[i]?=some va) (hb:Below w.heap.size w w1) (hg:w1.grownBy w2 va.ownBlock) (hm:CB 84 m cs w) : CB 84 m cs (w2.setCell ⟨g,i*6+5,none⟩ zn):=by
 have h1:=h.below hb;have hc:=hm.below hb;have hm1:va.ownBlock≠some m:=oz (h1.each i x va hx hv) hc (by decide);have hm2:m≠g:=fun e=>by
  subst e;exact oz h1.own hc (by decide) rfl
 exact ((hc.fr (aM.grown hg) hm1).fr (aM.set w2 g (i*6+5) zn) hm2)
theorem yN.rdl {ok:Nat->Prop}:∀ (L:List Bx) (dY:List js3),dY.length=L.length->(∀ (i:Nat) (x:Bx) (va:js3),L[i]?=some x->dY[i]?=some va->Rd ok w (dZ x.an) [va])->aL ok w (L.map Bx.d) (AU L dY)
 | [],[],_,_=>aL.none
 | x::L,va::dY,h,hr=>aL.cons (Bx.l6 x (hr 0 x va rfl rfl)) (yN.rdl L dY (by simpa using h) (fun i y vy h1 h2=>hr (i+1) y vy (by simpa using h1) (by simpa using h2)))
 | [],va::dY,h,_=>by cases h
 | x::L,[],h,_=>by cases h
theorem yN.row (h:yN m N g c w0 vp L dY w):aO 54 6 (fun b=>vp.ownBlock=some b) w0.heap.size w.heap.size (L.map Bx.d) (AU L dY) (.slice (some ⟨g,0,none⟩) L.length c) w:=by
 have hgl:=h.gl;have hle:=h.le;refine aO.l6 h.fr.size (by rw [jp5];exact mG h.own hle) ?_ (lI L dY) (fun b hb=>(h.own.lt b hb).2) h.fr.size (joz _);refine yN.rdl L dY h.len (fun i x va hx hv=>?_);have he:=h.each i x va hx hv;have:=Rd.qH (ok:=fun b=>va.ownBlock=some b) he (fun g hg=>hg);refine Rd.keep (fun b hb hlt=>⟨⟨?_,?_,hlt⟩,rfl⟩) _ _ this
 ·exact h.ok i va b hv hb
 ·intro e;have e:g=b:=by simpa [Value.ownBlock] using e
  subst e;exact iM he h.own (by decide) g hb rfl
end
def M6 (L:List Bx) (ks:List ah) (k:Nat):List Bx:=bQ (L.take k) (ks.take k)++L.drop k
theorem Od (L:List Bx) (ks:List ah):M6 L ks 0=L:=rfl
theorem nS (L:List Bx) (ks:List ah) (h:L.length=ks.length):(bQ L ks).length=L.length:=by simp [bQ,h]
theorem RX (L:List Bx) (ks:List ah) (h:L.length=ks.length):M6 L ks L.length=bQ L ks:=by unfold M6;rw [List.take_length,List.drop_length,h,List.take_length,List.append_nil]
theorem RO (L:List Bx) (ks:List ah) (h:L.length=ks.length) (k:Nat):(M6 L ks k).length=L.length:=by unfold M6;rw [jp4,nS _ _ (by simp [h]),jrk,List.length_drop];omega
theorem RN {L:List Bx} {ks:List ah} (h:L.length=ks.length) {k:Nat} {x:Bx} (hx:L[k]?=some x):(M6 L ks k)[k]?=some x:=by
 have hk:=(List.getElem?_eq_some_iff.1 hx).1;have hl:(bQ (L.take k) (ks.take k)).length=k:=by rw [nS _ _ (by simp [h]),jrk];omega
 unfold M6;rw [List.getElem?_append_right (by omega),hl,Nat.sub_self,List.getElem?_drop,Nat.add_zero,hx]
theorem Oe {L:List Bx} {ks:List ah} (h:L.length=ks.length) {k:Nat} {x:Bx} {r:ah} (hx:L[k]?=some x) (hr:ks[k]?=some r):(M6 L ks k).set k { x with an:=x.an++uG r }=M6 L ks (k+1):=by
 have hk:=(List.getElem?_eq_some_iff.1 hx).1;have hl:(bQ (L.take k) (ks.take k)).length=k:=by rw [nS _ _ (by simp [h]),jrk];omega
 have hd:L.drop k=x::L.drop (k+1):=by rw [<- (List.getElem?_eq_some_iff.1 hx).2];exact List.drop_eq_getElem_cons hk
 unfold M6;rw [List.set_append_right _ _ (by omega),hl,Nat.sub_self,hd,List.set_cons_zero,List.take_add_one,hx,List.take_add_one,hr];have e:bQ (L.take k++(some x).toList) (ks.take k++(some r).toList)=bQ (L.take k) (ks.take k)++[{ x with an:=x.an++uG r }]:=by unfold bQ;rw [List.zip_append (by simp [h]),List.map_append];rfl
 rw [e,List.append_assoc];rfl
theorem ER (g:Nat) (L:List Bx) (h:∀ y∈L,y.an=[]):AU (L.map (cZ g)) (List.replicate L.length (.slice none 0 0))=L.map (fun y=>bG (cZ g y)):=by
 induction L with
 | nil=>rfl
 | cons x L ih=>
  rw [List.map_cons,jp6,List.replicate_succ,AU,List.map_cons,ih (fun y hy=>h y (List.mem_cons_of_mem _ hy))];rfl
def lZ (cs:List ah):List ByteArray:=cs.flatMap fun c=>aW (Uy c) (kZ c)
theorem Hr {cs:List ah} {j:Nat} {c:ah} (h:cs[j]?=some c):lZ (cs.take (j+1))=lZ (cs.take j)++aW (Uy c) (kZ c):=by unfold lZ;rw [List.take_add_one,h,List.flatMap_append];simp
theorem Li (cs:List ah) (h:∀ c∈cs,(bJ (aj.aA (kZ c))).length<=1000) (j:Nat):(lZ (cs.take j)).length<=1001*j:=by
 have key:∀ (l:List ah),(∀ c∈l,(bJ (aj.aA (kZ c))).length<=1000)->(lZ l).length<=1001*l.length:=by
  intro l;induction l with
  | nil=>intro _;exact Nat.zero_le _
  | cons c l ih=>
   intro h;have h1:=ih (fun c hc=>h c (List.mem_cons_of_mem _ hc));have h2:=h c (jr1 ..);have h3:(aW (Uy c) (kZ c)).length<=1001:=by unfold aW ig;rw [jp4];split<;>simp<;>omega
   unfold lZ at h1 ⊢;rw [List.flatMap_cons,jp4,jp6,Nat.mul_add];omega
 have h1:=key (cs.take j) (fun c hc=>h c (List.mem_of_mem_take hc));rw [jrk] at h1;exact jp0 h1 (Nat.mul_le_mul_left _ (Nat.min_le_left _ _))
def TdR (m N g c:Nat) (w0:js1) (vp:js3) (Oc:List js3) (L:List Bx) (ks:List ah) (vi:js3) (wr:js1):Prop:=
 ∃ (k:Nat) (dY:List js3),k<=ks.length/\vi=.int .i64 k/\yN m N g c w0 vp (M6 L ks k) dY wr/\CB 84 m Oc wr
def TeR (m N g c:Nat) (w0:js1) (vp:js3) (Oc:List js3) (K:List Bx) (k:Nat) (x:Bx) (cs:List ah) (vi:js3) (wr:js1):Prop:=
 ∃ (j:Nat) (dY:List js3),j<=cs.length/\vi=.int .i64 j/\yN m N g c w0 vp (K.set k { x with an:=x.an++lZ (cs.take j) }) dY wr/\CB 84 m Oc wr
theorem yN.RJ {m g n cap:Nat} {W:Int} {st:St} {vp va:js3} {N:Nat} {x:Bx} {L:List Bx} {w w1 w':js1} (hle:w.heap.size<=N) (hF:aM (fun b=>b=m\/vp.ownBlock=some b) w w1) (hmk:mo m W (bO st (x::L) []).2 (.slice none 0 0) w') (hf:st.aV=false) (hL:∀ y∈L,y.an=[]) (hr:aO 54 6 (fun b=>vp.ownBlock=some b) N w'.heap.size ((bO st (x::L) []).1.map Bx.d) (tL x.text x.ht (st.groups:Int) x.keep x.fl va::L.map (fun y=>bG (cZ st.groups y))) (.slice (some ⟨g,0,none⟩) n cap) w') (hva:w'.ownsRow m 9 1 va (st.pend++[]).length ((st.pend++[]).map Value.string)) (Al:∀ b,va.ownBlock=some b->vp.ownBlock=some b\/w1.heap.size<=b) (hfr:aM (fun b=>b=m\/vp.ownBlock=some b\/(Value.slice (some ⟨g,0,none⟩) n cap).ownBlock=some b) w1 w') : yN m N g cap w vp (bO st (x::L) []).1 (va::List.replicate L.length (.slice none 0 0)) w'/\n=(bO st (x::L) []).1.length:=by
 have hE:bO st (x::L) []=(qy st.groups (st.pend++[]) x::L.map (cZ st.groups),{ st with groups:=st.groups+1,pend:=[],count:=st.count+(x::L).length }):=by unfold bO;rw [if_neg (by rw [hf];decide)]
 rw [hE] at hr hmk ⊢;have hn:n=(qy st.groups (st.pend++[]) x::L.map (cZ st.groups)).length:=by obtain ⟨a',c',e'⟩:=q01 hr.own;simp at e';simp;exact e'.2.1
 have hgN:=(hr.own.lt g rfl).1;have hrep:∀ (i:Nat) (v:js3),(va::List.replicate L.length (Value.slice none 0 0))[i]?=some v->i=0/\v=va\/i≠0/\v=.slice none 0 0:=by
  intro i v h;cases i with
  | zero=>simp at h;exact .inl ⟨rfl,h.symm⟩
  | succ i=>
   rw [List.getElem?_cons_succ,List.getElem?_replicate] at h;split at h
   ·exact .inr ⟨by omega,(jp7 h).symm⟩
   ·cases h
 refine ⟨⟨by simp,?_,?_,?_,?_,?_,hle,⟨_,hmk.cb⟩⟩,hn⟩
 ·have h1:=hr.own;rw [jp5] at h1;subst hn;rw [AU,ER _ _ hL];exact h1
 ·intro i y vy hy Sg;rcases hrep i vy Sg with ⟨rfl,rfl⟩ | ⟨hi,rfl⟩
  ·simp at hy;subst hy;rw [List.append_nil] at hva;exact hva
  ·obtain ⟨i',rfl⟩:∃ i',i=i'+1:=⟨i-1,by omega⟩;have hy2:y∈L.map (cZ st.groups):=List.mem_of_getElem? (by simpa using hy);obtain ⟨z,hz,rfl⟩:=List.mem_map.1 hy2;have:(cZ st.groups z).an=[]:=hL z hz;rw [this];exact Nv _ _ _ _
 ·intro i j vi vj b hij hi hj hb;rcases hrep i vi hi with ⟨h1,rfl⟩ | ⟨h1,rfl⟩
  ·rcases hrep j vj hj with ⟨h2,rfl⟩ | ⟨h2,rfl⟩
   ·omega
   ·simp [Value.ownBlock]
  ·simp [Value.ownBlock] at hb
 ·intro i v b hi hb;rcases hrep i v hi with ⟨h1,rfl⟩ | ⟨h1,rfl⟩
  ·exact (Al b hb).imp id (fun h=>jp0 hF.size h)
  ·simp [Value.ownBlock] at hb
 ·refine hF.trans hfr (fun b hb e=>?_);rcases e with e | e | e
  ·exact .inl e
  ·exact .inr e
  ·have e:g=b:=by simpa [Value.ownBlock] using e
   omega
end Go.Proofs.YtdneicipdlofiaaGreatDoor

