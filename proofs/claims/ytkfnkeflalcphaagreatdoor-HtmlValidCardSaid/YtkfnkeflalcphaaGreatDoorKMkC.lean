/- Plain part: the texts of the page of a small document are not too long. Plain part: what lies at a place of a text and behind it; how long markup is. Contracts of the reader of publisherref33: want, follows, name, until, where what is read lies there. Contracts of the reader of publisherref33: name, raw, where what is read lies there. Contracts of markup.inName, isName, isEmpty, checkAttrs, Check: at valid markup. -/
import Derived.Test.YtkfnkeflalcphaaGreatDoorKPlVn
set_option maxHeartbeats 8000000
set_option maxRecDepth 100000
open Go.Lib (hid)
namespace Go.Proofs.YtkfnkeflalcphaaGreatDoor
open List renaming getElem?_eq_getElem->jnj,length_append->jo1,length_map->jo2,length_cons->jo3,mem_of_getElem?->jo8,length_take->jq9
open Go.RowKit.Below renaming refl->jnk
open Nat renaming le_refl->jnq,zero_le->jo7
open Bool renaming eq_iff_iff->jo0
open Go renaming World->jqz
set_option linter.unusedVariables false
set_option linter.unusedSimpArgs false
def lT:List Pr->Nat
 | []=>0
 | p::l=>p.val.size+1+lT l
mutual
def Nd.tw:Nd->Nat
 | .mk _ t a ks=>1+t.size+lT a+Nd.dL ks
def Nd.dL:List Nd->Nat
 | []=>0
 | x::l=>x.tw+Nd.dL l
end
theorem Po:∀ (a:List Pr),(∀ p∈a,p.val.size<=lT a)/\a.length<=lT a
 | []=>⟨fun _ h=>(by cases h),jnq _⟩
 | q::a=>by
  obtain ⟨h1,h2⟩:=Po a;rw [lT,jo3];refine ⟨fun p hp=>?_,by omega⟩;rcases List.mem_cons.1 hp with rfl | hp
  ·omega
  ·have:=h1 p hp;omega
theorem Da:∀ (a b:List Pr),lT (a++b)=lT a+lT b
 | [],b=>by rw [lT];simp
 | p::a,b=>by rw [List.cons_append,lT,lT,Da a b];omega
theorem jv:∀ (a b:List Nd),Nd.dL (a++b)=Nd.dL a+Nd.dL b
 | [],b=>by rw [Nd.dL];simp
 | p::a,b=>by rw [List.cons_append,Nd.dL,Nd.dL,jv a b];omega
theorem uV (x:Nd):Nd.dL [x]=x.tw:=by rw [Nd.dL,Nd.dL];rfl
mutual
theorem Nd.Vt:∀ x:Nd,x.tw<=1000000000->x.tz
 | .mk n t a ks,h=>by
  rw [Nd.tw] at h;rw [Nd.tz];obtain ⟨h1,h2⟩:=Po a;exact ⟨by omega,fun p hp=>by have:=h1 p hp;omega,by omega,Nd.Pp ks (by omega)⟩
theorem Nd.Pp:∀ l:List Nd,Nd.dL l<=1000000000->Nd.U8 l
 | [],_=>by rw [Nd.U8];trivial
 | x::l,h=>by
  rw [Nd.dL] at h;rw [Nd.U8];exact ⟨Nd.Vt x (by omega),Nd.Pp l (by omega)⟩
end
theorem dA (n:ByteArray) (a:List Pr) (ks:List Nd):(aO n a ks).tw=1+lT a+Nd.dL ks:=by unfold aO;rw [Nd.tw];have:(⟨#[]⟩:ByteArray).size=0:=rfl;omega
theorem VH (s:ByteArray):(uS s).tw=1+s.size:=by unfold uS;rw [Nd.tw,lT,Nd.dL];omega
theorem rE (s:ByteArray):Nd.dL (bM s)<=1+s.size:=by
 unfold bM;split
 ·rw [Nd.dL];exact jo7 _
 ·rw [uV,VH];exact jnq _
theorem Tv (out:List Nd) (x:Nd):Nd.dL (lU out x)<=Nd.dL out+x.tw:=by
 unfold lU;split
 ·cases hg:out.getLast? with
  | none=>simp only;rw [jv,uV];exact jnq _
  | some y=>
   simp only;split
   ·have e:=xM hg
    conv=>rhs;rw [e]
    rw [jv,jv,uV,uV];obtain ⟨yn,yt,ya,yk⟩:=y;obtain ⟨xn,xt,xa,xk⟩:=x;rw [Nd.tw,Nd.tw,Nd.tw];show _+(1+(yt++xt).size+lT ya+Nd.dL yk)<=_;rw [ByteArray.size_append];omega
   ·rw [jv,uV];exact jnq _
 ·rw [jv,uV];exact jnq _
theorem Kl:∀ (l out:List Nd),Nd.dL (l.foldl lU out)<=Nd.dL out+Nd.dL l
 | [],out=>by rw [Nd.dL];simp
 | x::l,out=>by
  have h1:=Kl l (lU out x);have h2:=Tv out x;rw [List.foldl_cons,Nd.dL];omega
theorem AZ (l:List Nd):Nd.dL (iC l)<=Nd.dL l:=by have h:=Kl l [];rw [Nd.dL] at h;unfold iC;omega
theorem vw (k v:ByteArray):lT (iJ k v)<=v.size+1:=by
 unfold iJ;split
 ·rw [lT];omega
 ·rw [lT,lT];exact jnq _
theorem Pq (M:Nat):∀ (l:List ByteArray),(∀ c∈l,c.size<=M)->(zu l).size<=l.length*(M+1)
 | [],_=>by unfold zu;exact jo7 _
 | [x],h=>by unfold zu;have:=h x (by simp);simp;omega
 | x::y::l,h=>by
  have h1:=Pq M (y::l) (fun c hc=>h c (List.mem_cons_of_mem _ hc));have h2:=h x (by simp);have h3:MX.size=1:=rfl;rw [zu,ByteArray.size_append,ByteArray.size_append,jo3,Nat.succ_mul];omega
theorem vB (a:At) (more:List ByteArray) (h:a.short) (hm:more.length<=1) (hs:∀ c∈more,c.size<=600):lT (q0z a more)<=25300:=by
 unfold q0z Hw;have h1:=vw jZ a.id;have h2:=Pq 600 (more++a.cls) (fun c hc=>by
  rcases List.mem_append.1 hc with hc | hc
  ·exact hs c hc
  ·exact h.2.2.2.1 c hc)
 have h3:=h.1;have h4:=h.2.2.1;have h5:(more++a.cls).length<=41:=by rw [jo1];omega
 have h6:(more++a.cls).length*(600+1)<=41*601:=Nat.mul_le_mul_right _ h5;rw [Da];split
 ·rw [lT];omega
 ·rw [lT,lT];dsimp only;omega
mutual
theorem aj.tw:∀ x:aj,x.small->x.nd.tw<=30000*x.sz
 | .mk k t d ti a ar ci ks,hsm=>by
  unfold aj.small at hsm;obtain ⟨s1,s2,s3,s4,-,-,-,-,s5⟩:=hsm;have h:=aj.twR ks s5;have hj:=Nat.le_trans (AZ (aj.zw ks)) h;have b1:=vw Eb ti;have b2:=vB a [] s4 (by simp) (by simp);have b3:(mG ks).size<=300*aj.aW ks:=by have:=aj.oF ks s5;show (aj.aJ ks).toArray.size<=_;simpa using this
  have b4:=rE t;have b5:=rE d;have b6:(pX++t).size<=400:=by rw [ByteArray.size_append];have:pX.size=6:=rfl;omega
  have b7:pG.size<=10:=by decide
  have b8:lH.size<=10:=by decide
  have b9:MX.size<=10:=by decide
  have b0:Nd.dL []=0:=by rw [Nd.dL]
  have bp:lT []=0:=rfl;rw [aj.nd,aj.sz];have I:∀ (c:Prop) [Decidable c] (a b:Nd),a.tw<=30000*(1+aj.aW ks)->b.tw<=30000*(1+aj.aW ks)->(if c then a else b).tw<=30000*(1+aj.aW ks):=fun c _ a b h1 h2=>by
   by_cases hc:c
   ·rw [if_pos hc];exact h1
   ·rw [if_neg hc];exact h2
  repeat' (with_reducible refine I _ _ _ ?_ ?_)
  all_goals first
   | (rw [VH];omega)
   | (rw [dA];(try simp only [List.cons_append,Da,lT]);omega)
theorem aj.twR:∀ l:List aj,aj.ay l->Nd.dL (aj.zw l)<=30000*aj.aW l
 | [],_=>by rw [aj.zw,Nd.dL];exact jo7 _
 | x::l,h=>by
  unfold aj.ay at h;have h1:=aj.tw x h.1;have h2:=aj.twR l h.2;rw [aj.zw,Nd.dL,aj.aW];omega
end
theorem Pt (l:List aj) (h:aj.ay l):Nd.dL (iY l)<=30000*aj.aW l:=by unfold iY;exact Nat.le_trans (AZ _) (aj.twR l h)
theorem Tw (n:Nat) (h:n<=999999999):(dD n).size<=9:=by have h:=wT n 8 (by omega);show (Lib.decDigits n).toArray.size<=9;simp;omega
theorem jc5 (c:UInt8):(AL c).size<=10:=by
 unfold AL;split
 ·decide
 split
 ·decide
 split
 ·decide
 ·decide
theorem Pv {k lv:Int} {i t d ti:ByteArray} {a:At} {li:List aj} {ks l:List ah} (h:ah.ay (.mk k lv i t d ti a li ks::l)):aj.ay li/\ah.ay ks/\ah.ay l/\a.short/\i.size<=300/\t.size<=300:=by rw [ah.ay,ah.small] at h;exact ⟨h.1.2.2.2.2.2.1,h.1.2.2.2.2.2.2.2,h.2,h.1.2.2.2.2.1,h.1.1,h.1.2.1⟩
theorem FQ (name:ByteArray):∀ (cs:List UInt8) (l:List ah),ah.ay l->Nd.dL (aT name cs l)<=30000*((ah.aI l).length+(ah.aM l).length)
 | [],l,_=>by rw [aT.eq_def,Nd.dL];exact jo7 _
 | c::cs,[],_=>by rw [aT.eq_def,Nd.dL];exact jo7 _
 | c::cs,b::l,hs=>by
  obtain ⟨k,lv,i,t,d,ti,a,li,ks⟩:=b;obtain ⟨s1,s2,s3,-,-,-⟩:=Pv hs;have h:=FQ name cs l s3;have h1:(Ow name c (ah.mk k lv i t d ti a li ks)).tw<=12+30000*aj.aW li:=by have g2:=vw wY (AL c);have g3:=Pt li s1;have g4:=jc5 c;show (aO name (iJ wY (AL c)) (iY li)).tw<=_;rw [dA];omega
  rw [aT,Nd.dL,ah.aI,ah.aM,ah.each,ah.inls,jo1,jo1,jo1,jo3,aj.dW];omega
theorem Pw (name i:ByteArray) (b:ah) (hs:b.small):(lV name i b).tw<=30000*(b.each.length+b.inls.length):=by obtain ⟨k,lv,i',t,d,ti,a,li,ks⟩:=b;rw [ah.small] at hs;have h2:=FQ name i.data.toList ks hs.2.2.2.2.2.2.2;show (aO wX [] (aT name i.data.toList ks)).tw<=_;rw [dA,lT,ah.each,ah.inls,jo1,jo3];omega
theorem Km (name i:ByteArray):∀ (l:List ah),ah.ay l->Nd.dL (l.map (lV name i))<=30000*((ah.aI l).length+(ah.aM l).length)
 | [],_=>by rw [List.map_nil,Nd.dL];exact jo7 _
 | b::l,hs=>by
  rw [ah.ay] at hs;have h1:=Pw name i b hs.1;have h2:=Km name i l hs.2;rw [List.map_cons,Nd.dL,ah.aI,ah.aM,jo1,jo1];omega
theorem Px (i:ByteArray) (l:List ah) (hs:ah.ay l):(Aw i l).tw<=3+30000*((ah.aI l).length+(ah.aM l).length):=by
 have b0:Nd.dL []=0:=by rw [Nd.dL]
 have bp:lT []=0:=rfl;cases l with
 | nil=>
  unfold Aw;rw [dA,uV,dA,b0,bp];omega
 | cons h rows=>
  rw [ah.ay] at hs;unfold Aw;have g1:=Pw IV i h hs.1;have g2:=Km zT i rows hs.2;rw [dA,Nd.dL,dA,uV,ah.aI,ah.aM,jo1,jo1,bp];have g4:Nd.dL (if rows.isEmpty=true then [] else [aO sP [] (rows.map (lV zT i))])<=1+Nd.dL (rows.map (lV zT i)):=by
   split
   ·rw [b0];exact jo7 _
   ·rw [uV,dA,bp];omega
  omega
mutual
theorem ah.tw:∀ b:ah,b.small->b.Ig->Nd.dL b.tZ<=30000*(b.each.length+b.inls.length)
 | .mk k lv i t d ti a li ks,hs,hk=>by
  rw [ah.small] at hs;rw [ah.Ig] at hk;obtain ⟨s1,s2,-,-,s4,s5,-,s7⟩:=hs;have hkk:=hk.2.2.2.2.2.2.2;have hl:=Pt li s5;have ht:=Px i ks s7;have b1:=vw eX (if q01 i=true then ⟨#[]⟩ else tY++i);have b1':(if q01 i=true then (⟨#[]⟩:ByteArray) else tY++i).size<=400:=by
   split
   ·exact jo7 _
   ·rw [ByteArray.size_append];have:tY.size<=20:=by decide
    omega
  have b2:=vB a [] s4 (by simp) (by simp);have b3:=vB a [pG] s4 (by simp) (by simp;decide);have b4:=vB a [i] s4 (by simp) (by simp;omega);have b5:=rE t;have b0:Nd.dL []=0:=by rw [Nd.dL]
  have bp:lT []=0:=rfl;rw [ah.tZ,ah.each,ah.inls,jo3,jo1,aj.dW];generalize hM:30000*((ah.aI ks).length+1+(aj.aW li+(ah.aM ks).length))=M;have I:∀ (c:Prop) [Decidable c] (a b:List Nd),(c->Nd.dL a<=M)->(¬ c->Nd.dL b<=M)->Nd.dL (if c then a else b)<=M:=fun c _ a b h1 h2=>by
   by_cases hc:c
   ·rw [if_pos hc];exact h1 hc
   ·rw [if_neg hc];exact h2 hc
  have hq:k≠10->Nd.dL (ah.aS ks)<=30000*((ah.aI ks).length+(ah.aM ks).length):=fun h10=>ah.Tx ks s7 (hkk h10)
  refine I _ _ _ (fun _=>?_) (fun _=>I _ _ _ (fun _=>?_) (fun _=>I _ _ _ (fun _=>?_) (fun _=>I _ _ _ (fun _=>?_) (fun _=>I _ _ _ (fun _=>?_) (fun _=>I _ _ _ (fun h6=>?_) (fun _=>I _ _ _ (fun h7=>?_) (fun _=>I _ _ _ (fun h8=>?_) (fun _=>I _ _ _ (fun h9=>?_) (fun _=>I _ _ _ (fun _=>?_) (fun _=>I _ _ _ (fun ZT=>?_) (fun _=>?_)))))))))))
  ·rw [uV,dA,bp];omega
  ·rw [uV,dA];omega
  ·rw [uV,dA,uV,dA,bp];omega
  ·rw [uV,dA];omega
  ·rw [uV,dA,bp,b0];omega
  ·have:=hq (by omega);rw [uV,dA,bp];omega
  ·have:=hq (by omega);rw [uV,dA,bp];omega
  ·have:=hq (by omega);have h9:=Tw lv.toNat (by have:=hk.2.1 (.inr h8);omega);have h10:lT (if lv=1 then [] else [⟨sStart,dD lv.toNat⟩])<=10:=by
    split
    ·rw [bp];omega
    ·rw [lT,bp];dsimp only;omega
   rw [uV,dA];omega
  ·have:=hq (by omega);rw [uV,dA,bp];omega
  ·rw [uV];omega
  ·have:=hq (by omega);rw [uV,dA];omega
  ·rw [b0];exact jo7 _
theorem ah.Tx:∀ l:List ah,ah.ay l->ah.lK l->Nd.dL (ah.aS l)<=30000*((ah.aI l).length+(ah.aM l).length)
 | [],_,_=>by rw [ah.aS,Nd.dL];exact jo7 _
 | b::l,hs,hk=>by
  rw [ah.ay] at hs;rw [ah.lK] at hk;have h1:=ah.tw b hs.1 hk.1;have h2:=ah.Tx l hs.2 hk.2;rw [ah.aS,jv,ah.aI,ah.aM,jo1,jo1];omega
end
theorem FR (N:Nat):∀ (m:List ah),(∀ x∈m,x.small/\(x.Rv=14->Nd.dL (ah.aS x.kids)<=N))->Nd.dL (m.flatMap gN)<=m.length*(400+N)
 | [],_=>by rw [List.flatMap_nil,Nd.dL];exact jo7 _
 | x::m,h=>by
  have h1:=FR N m (fun y hy=>h y (List.mem_cons_of_mem _ hy));obtain ⟨hs,h2⟩:=h x (List.mem_cons_self ..);have h3:Nd.dL (gN x)<=400+N:=by
   obtain ⟨k,lv,i,t,d,ti,a,li,ks⟩:=x;rw [ah.small] at hs;show Nd.dL (if k=14 then [aO mH [⟨jZ,bY++i⟩,⟨eX,dK⟩] (ah.aS ks)] else [])<=400+N;by_cases hk:k=14
   ·have h2':Nd.dL (ah.aS ks)<=N:=h2 hk;have g1:=hs.1;have g2:bY.size=5:=rfl;have g3:dK.size=4:=rfl;rw [if_pos hk,uV,dA,lT,lT,lT];dsimp only;rw [ByteArray.size_append];omega
   ·rw [if_neg hk,Nd.dL];exact jo7 _
  rw [List.flatMap_cons,jv,jo3,Nat.succ_mul];omega
theorem Tz (cl:ByteArray->Bool) (m:List ah) (h:ah.aR cl 0 0 m=0) (hu:(ah.bg m).any fu=false) (hs:ah.ay m) (he:(ah.aI m).length<=120) (hi:(ah.aM m).length<=120) : Nd.dL (eB m)<=30000*((ah.aI m).length+(ah.aM m).length)+10+(ah.aI m).length*7200400:=by
 have h1:=ah.Tx m hs (TA cl m h hu);have h2:=FR 7200000 (ah.aI m) (fun x hx=>⟨ah.fE m hs x hx,fun hk=>by
  have g1:=ah.eiL m x hx;have g2:=ah.fE m hs x hx;have g3:=ah.Tx x.kids (by
   obtain ⟨k,lv,i,t,d,ti,a,li,ks⟩:=x;rw [ah.small] at g2;exact g2.2.2.2.2.2.2.2) (ah.sQ cl m 0 0 h hu x hx hk)
  omega⟩)
 have g0:je.size<=8:=by decide
 unfold eB;rw [jv];have:Nd.dL (if (ig m).isEmpty=true then [] else [aO iM [⟨eX,je⟩] (ig m)])<=10+Nd.dL (ig m):=by
  split
  ·rw [Nd.dL];exact jo7 _
  ·rw [uV,dA,lT,lT];dsimp only;omega
 have h3:Nd.dL (ig m)<=(ah.aI m).length*7200400:=h2;omega
theorem Py (title lang:ByteArray) (body:List Nd) (h1:title.size<=300) (h2:lang.size<=300) (h:Nd.dL body<=900000000):(jd title lang body).tw<=1000000000:=by
 have b1:=rE title;have g1:iL.size<=10:=by decide
 have bp:lT []=0:=rfl;unfold jd;rw [dA,Nd.dL,uV,dA,dA,Nd.dL,uV,dA,dA,lT,lT,lT,lT,Nd.dL];dsimp only;omega
theorem SY (cl:ByteArray->Bool) (l:List ah) (title lang:ByteArray) (h1:title.size<=300) (h2:lang.size<=300) (h:ah.aR cl 0 0 l=0) (hu:(ah.bg l).any fu=false) (hs:ah.ay l) (he:(ah.aI l).length<=120) (hi:(ah.aM l).length<=120):(jd title lang (eB l)).tw<=1000000000:=by refine Py title lang _ h1 h2 (Nat.le_trans (Tz cl l h hu hs he hi) ?_);have:=Nat.mul_le_mul_right 7200400 he;omega
def fI (s:ByteArray) (i:Nat) (l:List UInt8):Prop:=i<=s.size/\s.data.toList.drop i=l
section
variable {s:ByteArray} {i:Nat} {a l:List UInt8} {c:UInt8}
theorem fI.len (h:fI s i l):i+l.length=s.size:=by obtain ⟨h1,h2⟩:=h;have:=congrArg List.length h2;rw [List.length_drop,nD] at this;omega
theorem fI.step (h:fI s i (a++l)):fI s (i+a.length) l:=by have hl:=h.len;rw [jo1] at hl;refine ⟨by omega,?_⟩;rw [<- List.drop_drop,h.2,List.drop_left]
theorem fI.next (h:fI s i (c::l)):fI s (i+1) l:=fI.step (a:=[c]) h
theorem fI.lt (h:fI s i (c::l)):i<s.size:=by have:=h.len;rw [jo3] at this;omega
theorem fI.hd (h:fI s i (c::l)) (hlt:i<s.size):s[i]=c:=by
 have hb:=GL s i hlt;have h2:s.data.toList[i]?=some c:=by
  have h3:(s.data.toList.drop i)[0]?=(c::l)[0]?:=by rw [h.2]
  rw [List.getElem?_drop] at h3;simpa using h3
 exact Option.some.inj (hb.symm.trans h2)
theorem fI.cut (h:fI s i (a++l)):s.extract i (i+a.length)=kJ a:=by apply ByteArray.ext;apply Array.toList_inj.1;rw [ByteArray.data_extract,Array.toList_extract,List.extract_eq_take_drop,h.2,Nat.add_sub_cancel_left,List.take_left];exact (kI a).symm
theorem fI.jc6 (h:fI s i l) (n:Nat):s.extract i (i+n)=kJ (l.take n):=by apply ByteArray.ext;apply Array.toList_inj.1;rw [ByteArray.data_extract,Array.toList_extract,List.extract_eq_take_drop,h.2,Nat.add_sub_cancel_left];exact (kI _).symm
theorem fI.all (s:ByteArray):fI s 0 s.data.toList:=⟨jo7 _,rfl⟩
end
theorem mM (l:List UInt8):(kJ l).size=l.length:=by unfold kJ;simp [ByteArray.size]
theorem sS (l:List UInt8):(kJ l).toList=l:=by rw [Lib.toList_data,kI]
theorem Pz (c:UInt8):(gJ c).length<=6/\1<=(gJ c).length:=by
 unfold gJ
 repeat' split
 all_goals simp
theorem iQ:∀ (l:List UInt8),(q24 l).length<=6*l.length
 | []=>jo7 _
 | c::l=>by
  have h1:=iQ l;have h2:=(Pz c).1;unfold q24 at h1 ⊢;rw [List.flatMap_cons,jo1,jo3];omega
theorem lQ {s:ByteArray} (h:dG s=true):s.data.toList.length<=60:=by unfold dG at h;simp only [Bool.and_eq_true,decide_eq_true_eq] at h;rw [nD];exact h.1.2
theorem FU:∀ (a:List Pr),(∀ p∈a,dG p.key=true)->(bG a).length<=70*lT a
 | [],_=>jo7 _
 | p::a,h=>by
  have h1:=FU a (fun x hx=>h x (List.mem_cons_of_mem _ hx));have h2:=lQ (h p (List.mem_cons_self ..));have h3:=iQ p.val.data.toList;rw [nD] at h3;unfold bG at h1 ⊢;rw [List.flatMap_cons,lT];simp only [jo1,jo3,List.length_nil];omega
mutual
theorem Nd.O4:∀ x:Nd,x.kW=0->x.iO.length<=200*x.tw
 | .mk n t a ks,h=>by
  rw [Nd.kW] at h;rw [Nd.iO,Nd.tw];by_cases hn:q01 n=true
  ·rw [if_pos hn];have:=iQ t.data.toList;rw [nD] at this;omega
  ·rw [if_neg hn] at h ⊢;split at h
   ·cases h
   rename_i g1
   split at h
   ·cases h
   split at h
   ·rename_i g3;exact absurd h g3
   rename_i g3
   have hnm:dG n=true:=by simpa using g1
   have hat:rZ [] a=0:=by simpa using g3
   have h1:=lQ hnm;have h2:=FU a (fun p hp=>((lC a [] hat).1 p hp).1);have h3:=Nd.FV ks false h;have h4:(if pU n=true then [47,62] else 62::(Nd.aX ks++(60::47::(n.data.toList++[62])))).length<=200*Nd.dL ks+64:=by
    split
    ·simp
    ·simp only [jo1,jo3,List.length_nil];omega
   simp only [jo1,jo3];omega
theorem Nd.FV:∀ (l:List Nd) (p:Bool),Nd.iG p l=0->(Nd.aX l).length<=200*Nd.dL l
 | [],_,_=>by rw [Nd.aX];exact jo7 _
 | x::l,p,h=>by
  rw [gW] at h;have h1:=Nd.O4 x h.2.1;have h2:=Nd.FV l _ h.2.2;rw [Nd.aX,Nd.dL,jo1];omega
end
open Go.RowKit
structure dP (p:Nat) (s:ByteArray) (i:Nat) (w0 w:jqz):Prop where
 cb:CB 109 p [.string s,.int .i64 i,.int .i64 0] w
 gr:w0.grownBy w (some p)
section
variable {p i j:Nat} {s:ByteArray} {w0 w w':jqz}
theorem dP.c0 (h:dP p s i w0 w):w.cell? ⟨p,0,none⟩=some (.string s):=h.cb.cell 0 _ rfl
theorem dP.c1 (h:dP p s i w0 w):w.cell? ⟨p,1,none⟩=some (.int .i64 i):=h.cb.cell 1 _ rfl
theorem dP.c2 (h:dP p s i w0 w):w.cell? ⟨p,2,none⟩=some (.int .i64 0):=h.cb.cell 2 _ rfl
theorem dP.fz (h:dP p s i w0 w):w.frozen? ⟨p,1,none⟩=false:=kS h.cb 1
theorem dP.lt (h:dP p s i w0 w):p<w.heap.size:=h.cb.lt
theorem dP.start (h:CB 109 p [.string s,.int .i64 i,.int .i64 0] w):dP p s i w w:=⟨h,rfl,rfl,rfl,jnq _,fun _ _ _=>rfl⟩
theorem dP.trans (h:dP p s i w0 w) (k:dP p s j w w'):dP p s j w0 w':=⟨k.cb,h.gr.trans k.gr⟩
theorem dP.far (h:dP p s i w0 w) (k:w.grownBy w' none):dP p s i w0 w':=⟨(k.block p h.lt (by simp)).trans h.cb,h.gr.trans (k.but _)⟩
theorem dP.dN (h:dP p s i w0 w) (q:Nat):dP p s i w0 (w.drewN q):=⟨h.cb,⟨h.gr.os,h.gr.tape,h.gr.output,h.gr.size,h.gr.block⟩⟩
theorem dP.alloc (h:dP p s i w0 w) (o:Obj):dP p s i w0 (w.alloc o):=h.far (World.grownBy_alloc _ _ none)
theorem dP.put (h:dP p s i w0 w) (j:Nat):dP p s j w0 (w.setCell ⟨p,1,none⟩ (.int .i64 j)):=
 ⟨by have hc:=h.cb;unfold CB at hc ⊢;simp [World.setCell,Array.getElem?_modify,hc],h.gr.trans ⟨rfl,rfl,rfl,by simp [World.setCell],fun k _ hk=>Below.heap_setCell w ⟨p,1,none⟩ _ k (fun e=>hk (by rw [e]))⟩⟩
theorem dP.aN {B:Nat} (h:dP p s i w0 w) (h1:B<=p) (h2:B<=w0.heap.size):Below B w0 w:=⟨h.gr.os,h.gr.tape,h.gr.output,h.gr.size,fun k hk=>h.gr.block k (by omega) (fun e=>by cases e;omega)⟩
end
theorem pJ (c d:UInt8):((c.toNat:Int)==(d.toNat:Int))=decide (c=d):=by rw [jo0,beq_iff_eq,decide_eq_true_iff];exact ⟨fun h=>UInt8.toNat_inj.1 (by omega),fun h=>by rw [h]⟩
def vC (p:Nat) (s:ByteArray) (j:Nat) (v:Value) (w:jqz) (e:Ending) (w':jqz):Prop:=e=.returned v/\dP p s j w w'
def Db (p:Nat) (s t:ByteArray) (i:Nat) (w:jqz) (vi:Value) (wr:jqz):Prop:=∃ k:Nat,k<=t.size/\vi=.int .i64 k/\dP p s (i+k) w wr
theorem lW (p:Nat) (s t:ByteArray) (i:Nat) (l:List UInt8) (w:jqz) (h:CB 109 p [.string s,.int .i64 i,.int .i64 0] w) (hat:fI s i (t.data.toList++l)) (hs:s.size<=10000000000000) : Calls Tryz.prog 124 #[.pointer (some ⟨p,0,none⟩),.string t] w (vC p s (i+t.size) (.tuple #[]) w):=by
 have HAT:Hid (∀ (q k:Nat) (hk:k<t.size),q=i+k->∃ hlt:q<s.size,s[q]=t[k]):=fun q k hk hq=>by
  subst hq;have hd:t.data.toList=t.data.toList.take k++t[k]::t.data.toList.drop (k+1):=by
   have hk':k<t.data.toList.length:=by rw [nD];exact hk
   have h1:=List.drop_eq_getElem_cons hk';have h2:t.data.toList[k]=t[k]:=Option.some.inj ((jnj hk').symm.trans (GL t k hk));rw [<- h2,<- h1,List.take_append_drop]
  rw [hd,List.append_assoc] at hat;have h3:=hat.step;rw [jq9,nD,Nat.min_eq_left (by omega)] at h3;exact ⟨fI.lt h3,fI.hd h3 _⟩
 have hl:=hat.len;rw [jo1,nD] at hl;have R0:Hid (Db p s t i w (.int .i64 0) w):=⟨0,jo7 _,rfl,dP.start h⟩;clear h hat;go_enter Tryz.func124,Tryz.ntmps124;go_wp2
 go_loopw [4] (fun vi wr=>Db p s t i w vi wr) (fun i _=>t.size-(intOf i).toNat)
 case atStart=>exact R0.out
 case round=>
  clear R0;obtain ⟨k,hk,rfl,hR⟩:=hrel;have HR:=hid hR;have c0:=hR.c0;have c1:=hR.c1;have c2:=hR.c2;by_cases hlt:k<t.size
  ·obtain ⟨q,hq⟩:∃ q,q=i+k:=⟨_,rfl⟩;obtain ⟨g1,g2⟩:=HAT.out q k hlt hq;have HQ:=hid hq;have HF:Hid (∀ x,Db p s t i w (.int .i64 ((k+1:Nat):Int)) ((wr.drewN x).setCell ⟨p,1,none⟩ (.int .i64 ((q:Int)+1)))):=fun x=>⟨k+1,by omega,rfl,by
    have:=(hR.dN x).put (q+1);rw [hq,Nat.add_assoc] at this;rw [hq];exact this⟩
   rw [<- hq] at c1;have fz:=HR.out.fz;clear hq hR;have hne:((q:Int)==(s.size:Int))=false:=by simp;omega
   go_wp2
   go_quiet (fail)
   go_wp2
   go_quiet (fail)
   go_wp2;go_roundw;case rel=>exact HF.out _
   case measure=>simp [intOf];omega
  ·have HF:Hid (vC p s (i+t.size) (.tuple #[]) w (.returned (.tuple #[])) wr):=⟨rfl,by
    have e:k=t.size:=by omega
    rw [<- e];exact hR⟩
   clear hR;go_wp2
   go_end0
   exact HF.out
theorem FW (p:Nat) (s t:ByteArray) (i:Nat) (l:List UInt8) (w:jqz) (h:CB 109 p [.string s,.int .i64 i,.int .i64 0] w) (hat:fI s i l) (hs:s.size<=10000000000000) (ht:t.size<=1000) : Calls Tryz.prog 122 #[.pointer (some ⟨p,0,none⟩),.string t] w (vC p s i (.bool (decide (l.take t.size=t.data.toList))) w):=by
 have HR:Hid (dP p s i w w):=dP.start h;have hl:=hat.len;obtain ⟨j,hj⟩:∃ j,j=i+t.size:=⟨_,rfl⟩;obtain ⟨V,hV⟩:∃ V,V=decide (l.take t.size=t.data.toList):=⟨_,rfl⟩;have hx:((s.extract i j).toList==t.toList)=V:=by rw [hj,hat.jc6,sS,hV,jo0,beq_iff_eq,decide_eq_true_iff,Lib.toList_data]
 have HV:Hid (¬ j<=s.size->V=false):=fun hn=>by
  rw [hV,decide_eq_false_iff_not];intro e;have h1:=congrArg List.length e;rw [jq9,nD] at h1;omega
 rw [<- hV];have c0:=HR.out.c0;have c1:=HR.out.c1;have c2:=HR.out.c2;have hw:IntKind.i64.wrap ((i:Int)+(t.size:Int))=(j:Int):=by rw [hj,Int.natCast_add];exact IntWalk.i64_in _ (by omega)
 by_cases hf:j<=s.size
 ·have hd:decide ((t.size:Int)<=(s.size:Int)-(i:Int))=true:=by simp;omega
  have hij:i<=j:=by omega
  clear hV HV hat h hj;go_enter Tryz.func122,Tryz.ntmps122;go_wp2
  go_quiet (fail)
  go_wp2;go_ret;exact ⟨rfl,HR.out.dN _⟩
 ·have hd:decide ((t.size:Int)<=(s.size:Int)-(i:Int))=false:=by simp;omega
  have hv:=HV.out hf;rw [hv];clear hV HV hat h hj hv hx;go_enter Tryz.func122,Tryz.ntmps122;go_wp2
  go_quiet (fail)
  go_wp2;go_ret;exact ⟨rfl,HR.out.dN _⟩
theorem A8 (p:Nat) (s:ByteArray) (c:UInt8) (i:Nat) (a l:List UInt8) (w:jqz) (h:CB 109 p [.string s,.int .i64 i,.int .i64 0] w) (hat:fI s i (a++c::l)) (ha:∀ b∈a,b≠c) (hs:s.size<=10000000000000) : Calls Tryz.prog 158 #[.pointer (some ⟨p,0,none⟩),.int .u8 (c.toNat:Int)] w (vC p s i (.int .i64 ((i+a.length:Nat):Int)) w):=by
 have HR:Hid (dP p s i w w):=dP.start h;have hl:=hat.len;rw [jo1,jo3] at hl;have HAT:Hid (∀ (q k:Nat),q=i+k->(k<a.length->∃ hlt:q<s.size,((s[q].toNat:Int)==(c.toNat:Int))=false)/\(k=a.length->∃ hlt:q<s.size,((s[q].toNat:Int)==(c.toNat:Int))=true)):=fun q k hq=>by
  subst hq;refine ⟨fun hk=>?_,fun hk=>?_⟩
  ·have hd:a=a.take k++a[k]::a.drop (k+1):=by rw [<- List.drop_eq_getElem_cons hk,List.take_append_drop]
   rw [hd,List.append_assoc] at hat;have h3:=hat.step;rw [jq9,Nat.min_eq_left (by omega)] at h3;refine ⟨fI.lt h3,?_⟩;rw [fI.hd h3 (fI.lt h3),pJ,decide_eq_false_iff_not];exact ha _ (List.getElem_mem hk)
  ·subst hk;have h3:=hat.step;refine ⟨fI.lt h3,?_⟩;rw [fI.hd h3 (fI.lt h3),pJ];simp
 have c0:=HR.out.c0;have c1:=HR.out.c1;obtain ⟨n,hn⟩:∃ n,n=a.length:=⟨_,rfl⟩;rw [<- hn] at HAT hl ⊢;clear h hat ha hn;have R0:Hid (∃ k x:Nat,k<=n/\(Value.int .i64 (i:Int))=.int .i64 ((i+k:Nat):Int)/\w=w.drewN x):=⟨0,0,jo7 _,rfl,rfl⟩;go_enter Tryz.func158,Tryz.ntmps158;go_wp2
 go_loopw [5] (fun vi wr=>∃ k x:Nat,k<=n/\vi=.int .i64 ((i+k:Nat):Int)/\wr=w.drewN x) (fun i _=>s.size-(intOf i).toNat)
 case atStart=>exact R0.out
 case round=>
  clear R0;obtain ⟨k,x,hk,rfl,rfl⟩:=hrel;obtain ⟨q,hq⟩:∃ q,q=i+k:=⟨_,rfl⟩;obtain ⟨g1,g2⟩:=HAT.out q k hq;have HQ:=hid hq;rw [<- hq];have d0:(w.drewN x).cell? ⟨p,0,none⟩=some (.string s):=c0;by_cases hlt:k<n
  ·obtain ⟨z1,z2⟩:=g1 hlt;clear g1 g2 hq;have HF:Hid (∃ k' x':Nat,k'<=n/\(Value.int .i64 ((q:Int)+1))=.int .i64 ((i+k':Nat):Int)/\w.drewN x=w.drewN x'):=⟨k+1,x,by omega,by rw [HQ.out];go_num,rfl⟩;go_wp2;go_roundw;case rel=>exact HF.out
   case measure=>simp [intOf];omega
  ·obtain ⟨z1,z2⟩:=g2 (by omega);have HE:Hid ((q:Int)=((i+n:Nat):Int)):=by show _=_;rw [HQ.out,show k=n by omega]
   clear g1 g2 hq;go_wp2;go_ret;exact ⟨by rw [<- HE.out];rfl,HR.out.dN x⟩
open Go.RowKit
def posOf (p:Nat) (w:jqz):Nat:=match w.cell? ⟨p,1,none⟩ with | some (.int _ q)=>q.toNat | _=>0
theorem lX {p i:Nat} {w:jqz} (h:w.cell? ⟨p,1,none⟩=some (.int .i64 (i:Int))):posOf p w=i:=by unfold posOf;rw [h];simp
theorem Kn (c:UInt8) (w:jqz) (n:Nat):Calls Tryz.prog 109 #[.int .u8 (c.toNat:Int)] (w.drewN n) fun e w''=>e=.returned (.bool (fA c))/\∃ m,w''=w.drewN m:=
 (wo c (w.drewN n)).mono fun _ _ ⟨h1,h2⟩=>⟨h1,n,h2.symm⟩
theorem TD (s:ByteArray) (h:dG s=true) (w:jqz) (n:Nat):Calls Tryz.prog 65 #[.string s] (w.drewN n) fun e w''=>e=.returned (.bool true)/\∃ m,w''=w.drewN m:=
 (mE s (w.drewN n) h).mono fun _ _ ⟨h1,h2⟩=>⟨h1,n,h2.symm⟩
theorem Yd (s:ByteArray) (h:dG s=true) (w:jqz) (a n:Nat):Calls Tryz.prog 65 #[.string s] (w.drewN (a+n)) fun e w''=>e=.returned (.bool true)/\∃ m,w''=w.drewN (a+m):=
 (mE s (w.drewN (a+n)) h).mono fun _ _ ⟨h1,h2⟩=>⟨h1,n,h2.symm⟩
theorem A9 (p:Nat) (s n:ByteArray) (i:Nat) (c:UInt8) (l:List UInt8) (w:jqz) (h:CB 109 p [.string s,.int .i64 i,.int .i64 0] w) (hat:fI s i (n.data.toList++c::l)) (hn:dG n=true) (hc:fA c=false) (hs:s.size<=10000000000000) : Calls Tryz.prog 125 #[.pointer (some ⟨p,0,none⟩)] w (vC p s (i+n.size) (.string n) w):=by
 have En:Hid (dP p s i w w):=dP.start h;have hl:=hat.len;rw [jo1,jo3,nD] at hl;obtain ⟨m,hm⟩:∃ m,m=n.size:=⟨_,rfl⟩;have hall:=(Ko hn).1;have HX:Hid (∀ q,q=i+m->s.extract i q=n):=fun q hq=>by
  have h3:=hat.cut;rw [nD] at h3;rw [hq,hm,h3,vD]
 have HAT:Hid (∀ (q k:Nat),q=i+k->(k<m->∃ hlt:q<s.size,fA s[q]=true)/\(k=m->∃ hlt:q<s.size,fA s[q]=false)):=fun q k hq=>by
  subst hq;refine ⟨fun hk=>?_,fun hk=>?_⟩
  ·have hk':k<n.data.toList.length:=by rw [nD];omega
   have hd:n.data.toList=n.data.toList.take k++n.data.toList[k]::n.data.toList.drop (k+1):=by rw [<- List.drop_eq_getElem_cons hk',List.take_append_drop]
   rw [hd,List.append_assoc] at hat;have h3:=hat.step;rw [jq9,Nat.min_eq_left (by omega)] at h3;refine ⟨fI.lt h3,?_⟩;rw [fI.hd h3 (fI.lt h3)];exact hall _ (List.getElem_mem hk')
  ·subst hk;have h3:=hat.step;rw [nD,<- hm] at h3;refine ⟨fI.lt h3,?_⟩;rw [fI.hd h3 (fI.lt h3)];exact hc
 have HN:=hid hn;have d1:=En.out.c1;rw [<- hm] at hl ⊢;clear h hat hn hc hall hm;have R0:Hid (∃ k:Nat,k<=m/\dP p s (i+k) w w):=⟨0,jo7 _,En.out⟩;go_enter Tryz.func125,Tryz.ntmps125;go_wp2;clear d1
 go_loopw [] (fun wr=>∃ k:Nat,k<=m/\dP p s (i+k) w wr) (fun wr=>s.size-posOf p wr)
 case atStart=>exact R0.out
 case round=>
  clear R0;obtain ⟨k,hk,hR⟩:=hrel;obtain ⟨q,hq⟩:∃ q,q=i+k:=⟨_,rfl⟩;rw [<- hq] at hR;have HR:=hid hR;obtain ⟨g1,g2⟩:=HAT.out q k hq;have HQ:=hid hq;have c0:=hR.c0;have c1:=hR.c1;have c2:=hR.c2;have fz:=hR.fz;have HPO:=hid (lX c1);by_cases hlt:k<m
  ·obtain ⟨z1,z2⟩:=g1 hlt;have hq1:decide ((q:Int)<(s.size:Int))=true:=by simp;omega
   have HF:Hid (∀ x,(∃ k':Nat,k'<=m/\dP p s (i+k') w ((wr.drewN x).setCell ⟨p,1,none⟩ (.int .i64 ((q:Int)+1))))/\posOf p ((wr.drewN x).setCell ⟨p,1,none⟩ (.int .i64 ((q:Int)+1)))=q+1):=fun x=>by
    have h3:=(HR.out.dN x).put (q+1);exact ⟨⟨k+1,by omega,by rw [<- Nat.add_assoc,<- HQ.out];exact h3⟩,lX h3.c1⟩
   clear hq hR g1 g2;go_wp2
   go_quiet ((go_at_call 109;exact Kn _ _ _))
   go_wp2;go_roundw;case rel=>exact (HF.out _).1
   case measure=>rw [(HF.out _).2,HPO.out];omega
  ·have hkm:k=m:=by omega
   obtain ⟨z1,z2⟩:=g2 hkm;have hq1:decide ((q:Int)<(s.size:Int))=true:=by simp;omega
   have hq2:((q:Int)==(s.size:Int))=false:=by simp;omega
   have hx:=HX.out q (by rw [<- hkm];exact hq);have hiq:i<=q:=by omega
   have HE:Hid (q=i+m):=by show _=_;rw [hq,hkm]
   clear hq hR g1 g2 hkm hlt;go_wp2
   go_quiet ((go_at_call 109;exact Kn _ _ _))
   go_wp2
   go_quiet (fail)
   go_wp2
   go_quiet ((go_at_call 65;first | exact Yd _ HN.out _ _ _ | exact TD _ HN.out _ _))
   go_wp2
   go_quiet (fail)
   go_wp2;go_ret;exact ⟨rfl,by rw [<- HE.out];exact (((HR.out.dN _).dN _).dN _).dN _⟩
def zU:Nat->List UInt8
 | 0=>[38,97,109,112,59]
 | 1=>[38,108,116,59]
 | 2=>[38,103,116,59]
 | _=>[38,113,117,111,116,59]
def Zl:Nat->UInt8
 | 0=>38
 | 1=>60
 | 2=>62
 | _=>34
theorem PD (k:Nat):4<=(zU k).length/\(zU k).length<=6:=by unfold zU;split<;>simp
theorem jc7 (kc k:Nat) (l:List UInt8) (hk:k<kc) (hkc:kc<4):(zU kc++l).take (zU k).length≠zU k:=by
 have h:(kc=1/\k=0)\/(kc=2/\k=0)\/(kc=2/\k=1)\/(kc=3/\k=0)\/(kc=3/\k=1)\/(kc=3/\k=2):=by omega
 rcases h with ⟨rfl,rfl⟩ | ⟨rfl,rfl⟩ | ⟨rfl,rfl⟩ | ⟨rfl,rfl⟩ | ⟨rfl,rfl⟩ | ⟨rfl,rfl⟩<;>simp [zU]
theorem TG (c:UInt8):(∃ kc,kc<4/\c=Zl kc/\gJ c=zU kc)\/(c≠38/\c≠60/\c≠62/\c≠34/\gJ c=[c]):=by
 by_cases h1:c=38
 ·exact .inl ⟨0,by decide,h1,by rw [h1];rfl⟩
 by_cases h2:c=60
 ·exact .inl ⟨1,by decide,h2,by rw [h2];rfl⟩
 by_cases h3:c=62
 ·exact .inl ⟨2,by decide,h3,by rw [h3];rfl⟩
 by_cases h4:c=34
 ·exact .inl ⟨3,by decide,h4,by rw [h4];rfl⟩
 exact .inr ⟨h1,h2,h3,h4,by unfold gJ;rw [if_neg h1,if_neg h2,if_neg h3,if_neg h4]⟩
theorem jc8 (T:List UInt8) (j:Nat) (c:UInt8) (h:T[j]?=some c):fI (kJ (q24 T)) (q24 (T.take j)).length (gJ c++q24 (T.drop (j+1))):=by
 have h1:T=T.take j++(c::T.drop (j+1)):=by obtain ⟨hj,hc⟩:=List.getElem?_eq_some_iff.1 h;rw [<- hc,<- List.drop_eq_getElem_cons hj,List.take_append_drop]
 have h2:q24 T=q24 (T.take j)++(gJ c++q24 (T.drop (j+1))):=by
  conv=>lhs;rw [h1]
  unfold q24;rw [List.flatMap_append,List.flatMap_cons]
 have h3:=fI.all (kJ (q24 T));rw [kI,h2] at h3;have h4:=h3.step;rw [Nat.zero_add,<- h2] at h4;exact h4
def xO (wB:jqz) (T:List UInt8) (v vi:Value) (wr:jqz):Prop:=∃ j:Nat,j<=T.length/\vi=.int .i64 ((q24 (T.take j)).length:Nat)/\wr.ownsRow wB.heap.size 5 1 v j (Lib.byteCells (T.take j))/\Below wB.heap.size wB wr
def Dc (wr:jqz) (i kc:Nat) (v8 v9 v10 v11:Value) (w':jqz):Prop:=(∃ x,w'=wr.drewN x)/\((∃ k:Nat,k<=kc/\v8=.int .i64 i/\v9=.int .u8 38/\v10=.bool false/\v11=.int .i64 k)\/(v8=.int .i64 ((i+(zU kc).length-1:Nat):Int)/\v9=.int .u8 ((Zl kc).toNat:Int)/\v10=.bool true/\v11=.int .i64 ((kc+1:Nat):Int)))
theorem Kq (v0:Option Addr) (t:ByteArray) (w:jqz) (hs:t.size<=1000000000) : Calls Tryz.prog 159 #[.pointer v0,.string (nY t)] w fun e w'=>e=.returned (.string t)/\Below w.heap.size w w':=by
 obtain ⟨T,hT⟩:∃ T,T=t.data.toList:=⟨_,rfl⟩;obtain ⟨S,hS⟩:∃ S,S=nY t:=⟨_,rfl⟩;have hSs:S.size=(q24 T).length:=by rw [hS,hT];unfold nY;rw [mM]
 have hTl:T.length<=1000000000:=by rw [hT,nD];exact hs
 have hsl:S.size<=6000000000:=by rw [hSs];have:=iQ T;omega
 have HAT:Hid (∀ j c,T[j]?=some c->fI S (q24 (T.take j)).length (gJ c++q24 (T.drop (j+1)))):=fun j c h=>by
  have:=jc8 T j c h;rw [hS];unfold nY;rw [<- hT];exact this
 have HRT:Hid (t=⟨T.toArray⟩):=by show _=_;rw [hT]
 rw [<- hS];obtain ⟨i0,hi,hz0,hz1,hz2⟩:=info_parts Cw;obtain ⟨gw,hgw⟩:∃ g,g=w.heap.size:=⟨_,rfl⟩;obtain ⟨wA,gD⟩:∃ wA,wA=w.alloc (.cells #[.string ⟨#[38,97,109,112,59]⟩,.string ⟨#[38,108,116,59]⟩,.string ⟨#[38,103,116,59]⟩,.string ⟨#[38,113,117,111,116,59]⟩] 9):=⟨_,rfl⟩;obtain ⟨gb,hgb⟩:∃ g,g=wA.heap.size:=⟨_,rfl⟩;obtain ⟨wB,uj⟩:∃ wB,wB=wA.alloc (.cells #[.int .u8 38,.int .u8 60,.int .u8 62,.int .u8 34] 5):=⟨_,rfl⟩;have kA:CB 9 gw [.string ⟨#[38,97,109,112,59]⟩,.string ⟨#[38,108,116,59]⟩,.string ⟨#[38,103,116,59]⟩,.string ⟨#[38,113,117,111,116,59]⟩] wA:=by rw [gD,hgw];exact CB.new _ _ _
 have bA:Below w.heap.size w wA:=by rw [gD];exact (jnk _ _).alloc (jnq _) _
 have kB:CB 5 gb [.int .u8 38,.int .u8 60,.int .u8 62,.int .u8 34] wB:=by rw [uj,hgb];exact CB.new _ _ _
 have bB:Below wA.heap.size wA wB:=by rw [uj];exact (jnk _ _).alloc (jnq _) _
 have kA2:=kA.below bB;have HCW:Hid (∀ W,Below wB.heap.size wB W->∀ k,k<4->W.cell? ⟨gw,k,none⟩=some (.string (kJ (zU k)))):=fun W hW k hk=>by
  have h:=kA2.below hW
  match k,hk with
  | 0,_=>exact h.cell 0 _ rfl
  | 1,_=>exact h.cell 1 _ rfl
  | 2,_=>exact h.cell 2 _ rfl
  | 3,_=>exact h.cell 3 _ rfl
 have Rl:Hid (∀ W,Below wB.heap.size wB W->∀ k,k<4->W.cell? ⟨gb,k,none⟩=some (.int .u8 ((Zl k).toNat:Int))):=fun W hW k hk=>by
  have h:=kB.below hW
  match k,hk with
  | 0,_=>exact h.cell 0 _ rfl
  | 1,_=>exact h.cell 1 _ rfl
  | 2,_=>exact h.cell 2 _ rfl
  | 3,_=>exact h.cell 3 _ rfl
 have BW:=hid (aU bA bB);have R0:Hid (xO wB T (.slice none 0 0) (.int .i64 0) wB):=⟨0,jo7 _,rfl,World.ownsRow_nil _ _ _ _,jnk _ _⟩;have GU:=hid hSs;have jc9:gb=gw+1:=by rw [hgb,gD,World.size_alloc,hgw]
 clear hs hT hS kA bA kB bB kA2 hSs;go_enter Tryz.func159,Tryz.ntmps159;go_upto_region 4 with (fail)
 rw [<- gD,<- hgw,<- uj,<- jc9];clear gD hgw uj hgb jc9;go_wp2
 go_loopw [5,8] (fun v vi wr=>xO wB T v vi wr) (fun _ i _=>S.size-(intOf i).toNat)
 case atStart=>exact R0.out
 case round=>
  clear R0;obtain ⟨j,hj,rfl,hown,hbel⟩:=hrel;obtain ⟨av,cv,rfl⟩:=tT hown;obtain ⟨i,hin⟩:∃ i,i=(q24 (T.take j)).length:=⟨_,rfl⟩;rw [<- hin];have HOW:=hid hown;have HB:=hid hbel;have hsz:=hbel.size;by_cases hlt:j<T.length
  ·obtain ⟨c,hc⟩:∃ c,T[j]?=some c:=⟨_,jnj hlt⟩;have hA:=HAT.out j c hc;rw [<- hin] at hA;have Ho:Hid (T.take (j+1)=T.take j++[c]):=by show _=_;rw [List.take_add_one,hc];rfl
   have HEN:Hid ((q24 (T.take (j+1))).length=i+(gJ c).length):=by show _=_;rw [AU T j c hc,jo1,<- hin]
   have HAP:Hid (∀ (a':Option Addr) (c':Nat) (w':jqz),w'.ownsRow wB.heap.size 5 1 (.slice a' (j+1) c') (j+1) (Lib.byteCells (T.take j)++[.int .u8 (c.toNat:Int)])->Below wB.heap.size wB w'->xO wB T (.slice a' (j+1) c') (.int .i64 ((i+(gJ c).length:Nat):Int)) w'):=fun a' c' w' h1 h2=>⟨j+1,by omega,by rw [HEN.out],by rw [Ho.out,Lib.byteCells_append];exact h1,h2⟩
   clear hin hown hbel;rcases TG c with ⟨kc,hkc,hck,hec⟩ | ⟨n1,n2,n3,n4,hec⟩
   ·subst hck;rw [hec] at hA HAP;have hlw:=PD kc;have hd:∃ d m,zU kc=38::d::m:=by
     have h:kc=0\/kc=1\/kc=2\/kc=3:=by omega
     rcases h with rfl | rfl | rfl | rfl<;>exact ⟨_,_,rfl⟩
    obtain ⟨d,m,hd⟩:=hd;have hlt2:i<S.size:=by rw [hd] at hA;exact fI.lt hA
    have hh:S[i]=38:=by rw [hd] at hA;exact fI.hd hA hlt2
    have hlen:=hA.len;rw [jo1] at hlen;have HTE:Hid (∀ k,k<4->(kJ (zU k)).size=(zU k).length):=fun k _=>mM _
    have HTS:Hid (∀ k e,k<=kc->e=i+(zU k).length->(k<kc->e<=S.size->((S.extract i e).toList==(kJ (zU k)).toList)=false)/\(k=kc->e<=S.size/\((S.extract i e).toList==(kJ (zU k)).toList)=true)):=fun k e hk he=>by
     subst he;rw [hA.jc6,sS,sS];refine ⟨fun h1 _=>?_,fun h1=>?_⟩
     ·rw [beq_eq_false_iff_ne];exact jc7 kc k _ h1 hkc
     ·subst h1;refine ⟨by omega,?_⟩;rw [beq_iff_eq,List.take_left]
    have q1:=pJ S[i] 60;have q2:=pJ S[i] 62;have q3:=pJ S[i] 34;have q4:=pJ S[i] 38;have e0:((38:UInt8).toNat:Int)=38:=rfl;have e1:((60:UInt8).toNat:Int)=60:=rfl;have e2:((62:UInt8).toNat:Int)=62:=rfl;have e3:((34:UInt8).toNat:Int)=34:=rfl;rw [hh,e0] at q1 q2 q3 q4;rw [e1] at q1;rw [e2] at q2;rw [e3] at q3;have hu:(S[i].toNat:Int)=38:=by rw [hh];rfl
    have ql:decide ((i:Int)<(S.size:Int))=true:=by simp;omega
    obtain ⟨wq,hwq⟩:∃ wq:jqz,wq=wr:=⟨_,rfl⟩;subst hwq;have R1:Hid (Dc wq i kc (.int .i64 i) (.int .u8 38) (.bool false) (.int .i64 0) wq):=⟨⟨0,rfl⟩,.inl ⟨0,jo7 _,rfl,rfl,rfl,rfl⟩⟩;clear e0 e1 e2 e3 hd hh hec hA;go_wp2
    go_loopw [8,9,10,11] (fun v8 v9 v10 v11 w'=>Dc wq i kc v8 v9 v10 v11 w') (fun _ _ _ v11 _=>4-(intOf v11).toNat)
    case atStart=>exact R1.out
    case round=>
     clear R1 hu q1 q2 q3 q4 ql;obtain ⟨⟨x,rfl⟩,hcase⟩:=hrel;have HX:Hid (∀ y,∃ z,wq.drewN y=wq.drewN z):=fun y=>⟨y,rfl⟩
     rcases hcase with ⟨k,hk,rfl,rfl,rfl,rfl⟩ | ⟨rfl,rfl,rfl,rfl⟩
     ·have hk4:k<4:=by omega
      have hcw:=HCW.out wq HB.out k hk4;have hcb:=Rl.out wq HB.out k hk4;obtain ⟨W,hW⟩:∃ W,W=kJ (zU k):=⟨_,rfl⟩;have hWs:=HTE.out k hk4;rw [<- hW] at hWs hcw;obtain ⟨e,he⟩:∃ e,e=i+(zU k).length:=⟨_,rfl⟩;obtain ⟨t1,t2⟩:=HTS.out k e hk he;rw [<- hW] at t1 t2;have hlk:=PD k;have jlz:IntKind.i64.wrap ((i:Int)+(W.size:Int))=(e:Int):=by rw [hWs,he,Int.natCast_add];exact IntWalk.i64_in _ (by omega)
      have hie:i<=e:=by omega
      have jm0:decide ((k:Int)<(4:Int))=true:=by simp;omega
      have hk7:k<7:=by omega
      by_cases hkk:k<kc
      ·have HF:Hid (∀ y,Dc wq i kc (.int .i64 i) (.int .u8 38) (.bool false) (.int .i64 ((k+1:Nat):Int)) (wq.drewN y)):=fun y=>⟨⟨y,rfl⟩,.inl ⟨k+1,by omega,rfl,rfl,rfl,rfl⟩⟩
       by_cases hfit:e<=S.size
       ·have t3:=t1 hkk hfit;have qf:decide ((e:Int)<=(S.size:Int))=true:=by simp;omega
        clear t1 t2 hW he hWs hcb;go_wp2
        go_quiet (fail)
        go_wp2;go_roundw;case rel=>exact HF.out _
        case measure=>simp [intOf];omega
       ·have qf:decide ((e:Int)<=(S.size:Int))=false:=by simp;omega
        clear t1 t2 hW he hWs hcb;go_wp2
        go_quiet (fail)
        go_wp2;go_roundw;case rel=>exact HF.out _
        case measure=>simp [intOf];omega
      ·obtain rfl:k=kc:=by omega
       obtain ⟨t4,t3⟩:=t2 rfl;have qf:decide ((e:Int)<=(S.size:Int))=true:=by simp;omega
       have HWS:=hid he;have HF:Hid (∀ y,Dc wq i k (.int .i64 ((e:Int)-1)) (.int .u8 ((Zl k).toNat:Int)) (.bool true) (.int .i64 ((k+1:Nat):Int)) (wq.drewN y)):=fun y=>⟨⟨y,rfl⟩,.inr ⟨congrArg (Value.int .i64) (by have:=HWS.out;omega),rfl,rfl,rfl⟩⟩
       have jm1:W.size<=6:=by omega
       clear t1 t2 hW he hWs;go_wp2
       go_quiet (fail)
       go_wp2;go_roundw;case rel=>exact HF.out _
       case measure=>simp [intOf];omega
     ·have hkq:decide ((kc:Int)+1<(4:Int))=true\/decide ((kc:Int)+1<(4:Int))=false:=by cases decide ((kc:Int)+1<(4:Int))<;>simp
      have hbl:(Zl kc).toNat<256:=UInt8.toNat_lt _;have HOX:Hid (∀ y,(wq.drewN y).ownsRow wB.heap.size 5 1 (.slice av j cv) j (Lib.byteCells (T.take j))/\Below wB.heap.size wB (wq.drewN y)):=fun y=>⟨HOW.out,gG HB.out y⟩
      obtain ⟨wz,hwz⟩:∃ wz,wz=wq.drewN x:=⟨_,rfl⟩;have HOZ:=hid (HOX.out x).1;have HBZ:=hid (HOX.out x).2;rw [<- hwz] at HOZ HBZ;have hszz:=HBZ.out.size;rw [<- hwz];clear hwz;rcases hkq with hkq | hkq
      all_goals
       go_wp2_with (at_builtin;refine wpList_append_own _ rfl _ _ 102 rfl wB.heap.size 5 i0 (.int .u8 0) 1 1 Tryz.underlying102 hi hz0 hz1 hz2 rfl (by decide) _ _ _ rfl (HOZ.out.alloc _) ⟨wz.heap.size,0,none⟩ 1 1 [.int .u8 ((Zl kc).toNat:Int)] rfl rfl (Ch wz _ _) (by intro u hu;simp at hu;subst hu;rfl) (by unfold maxLen;omega) (by omega) (by simp;omega) ?_)
       intro v' w3 hown' hg _;obtain ⟨a3,c3,rfl⟩:=tT hown';have hf:=HAP.out a3 c3 w3 hown' ((HBZ.out.alloc hszz _).grown hg (by simp;omega) (fun b hb=>(HOZ.out.lt b hb).1));have HF:Hid (xO wB T (.slice a3 (j+1) c3) (.int .i64 (((i+(zU kc).length-1:Nat):Int)+1)) w3):=by
        show xO _ _ _ _ _;have e:(((i+(zU kc).length-1:Nat):Int)+1)=((i+(zU kc).length:Nat):Int):=by omega
        rw [e];exact hf
       clear hown' hg hf;go_wp2;go_roundw;case rel=>exact HF.out
       case measure=>simp [intOf];omega
   ·rw [hec] at hA HAP;have hlt2:=fI.lt hA;have hh:=fI.hd hA hlt2;have q1:=pJ S[i] 60;have q2:=pJ S[i] 62;have q3:=pJ S[i] 34;have q4:=pJ S[i] 38;rw [hh,decide_eq_false n2] at q1;rw [hh,decide_eq_false n3] at q2;rw [hh,decide_eq_false n4] at q3;rw [hh,decide_eq_false n1] at q4;have e1:((60:UInt8).toNat:Int)=60:=rfl;have e2:((62:UInt8).toNat:Int)=62:=rfl;have e3:((34:UInt8).toNat:Int)=34:=rfl;have e4:((38:UInt8).toNat:Int)=38:=rfl;rw [e1] at q1;rw [e2] at q2;rw [e3] at q3;rw [e4] at q4;have ql:decide ((i:Int)<(S.size:Int))=true:=by simp;omega
    clear e1 e2 e3 e4 n1 n2 n3 n4 hA hec;go_wp2_with (at_builtin;refine wpList_append_own _ rfl _ _ 102 rfl wB.heap.size 5 i0 (.int .u8 0) 1 1 Tryz.underlying102 hi hz0 hz1 hz2 rfl (by decide) _ _ _ rfl (HOW.out.alloc _) ⟨wr.heap.size,0,none⟩ 1 1 [.int .u8 (c.toNat:Int)] rfl rfl ?c1 ?c2 ?c3 ?c4 ?c5 ?_)
    case c1=>exact Ch wr _ _
    case c2=>intro u hu;simp at hu;subst hu;rfl
    case c3=>unfold maxLen;omega
    case c4=>omega
    case c5=>simp;omega
    intro v' w3 hown' hg _;obtain ⟨a3,c3,rfl⟩:=tT hown';have HF:=hid (HAP.out a3 c3 w3 hown' ((HB.out.alloc hsz _).grown hg (by simp;omega) (fun b hb=>(HOW.out.lt b hb).1)));clear hown' hg;go_wp2;go_roundw;case rel=>exact HF.out
    case measure=>simp [intOf];omega
  ·obtain rfl:j=T.length:=by omega
   have hil:i=S.size:=by rw [hin,GU.out,List.take_length]
   have hcv:=PE (w:=wr) (v:=.slice av T.length cv) (l:=T) (by have h:=hown;rw [List.take_length] at h;exact h);have ql:decide ((i:Int)<(S.size:Int))=false:=by simp;omega
   have HF:Hid (Below w.heap.size w wr):=BW.out.trans (hbel.mono BW.out.size);clear hin hown hbel;go_wp2;go_ret;exact ⟨by rw [HRT.out];rfl,HF.out⟩
open Go.RowKit
theorem FX (c:UInt8) (w:jqz) : Calls Tryz.prog 155 #[.int .u8 (c.toNat:Int)] w fun e w'=>e=.returned (.bool (fA c))/\w=w':=by
 have h45:c=45↔c.toNat=45:=⟨fun h=>by rw [h];rfl,fun h=>UInt8.toNat_inj.1 (by rw [h];rfl)⟩;have ZY:c=58↔c.toNat=58:=⟨fun h=>by rw [h];rfl,fun h=>UInt8.toNat_inj.1 (by rw [h];rfl)⟩;have HV:Hid (fA c=true↔(97<=c.toNat/\c.toNat<=122)\/(48<=c.toNat/\c.toNat<=57)\/c.toNat=45\/c.toNat=58):=by show _↔_;unfold fA Ck;simp only [Bool.or_eq_true,Bool.and_eq_true,decide_eq_true_eq,h45,ZY];omega
 have hc:=UInt8.toNat_lt c;generalize fA c=V at *;generalize c.toNat=n at *;clear h45 ZY;go_enter Tryz.func155,Tryz.ntmps155;go_wp2;all_goals
  go_ret;refine ⟨vP ?_,rfl⟩;rw [jo0,HV.out]
  (try simp only [beq_iff_eq,beq_eq_false_iff_ne,ne_eq] at *)
  (try simp)
  (try omega)
theorem xP (s:ByteArray) (w:jqz) (h:dG s=true) : Calls Tryz.prog 116 #[.string s] w fun e w'=>e=.returned (.bool true)/\w=w':=by
 unfold dG at h;simp only [Bool.and_eq_true,decide_eq_true_eq] at h;obtain ⟨⟨⟨hall,h1⟩,ZC⟩,hlow⟩:=h;have hg:=GL s 0 h1;obtain ⟨c,hc⟩:∃ c,s[0]=c:=⟨_,rfl⟩;rw [hc] at hg;have hl:Ck c=true:=by
  cases h:s.data.toList with
  | nil=>rw [h] at hg;simp at hg
  | cons a l=>rw [h] at hg hlow;simp at hg;rw [<- hg];exact hlow
 unfold Ck at hl;simp only [Bool.and_eq_true,decide_eq_true_eq] at hl;obtain ⟨l1,l2⟩:=hl;have q0:s.toList.isEmpty=false:=by
  rw [Lib.toList_data];cases h:s.data.toList with
  | nil=>rw [h] at hg;simp at hg
  | cons a l=>rfl
 have HA:Hid (∀ (k:Nat) (hk:k<s.size),fA s[k]=true):=fun k hk=>by
  have h:=GL s k hk;exact List.all_eq_true.1 hall _ (jo8 h)
 have q1:decide ((c.toNat:Int)<(97:Int))=false:=by simp;omega
 have q2:decide ((122:Int)<(c.toNat:Int))=false:=by simp;omega
 have q3:decide ((60:Int)<(s.size:Int))=false:=by simp;omega
 clear hall hlow hg;go_enter Tryz.func116,Tryz.ntmps116;go_wp2
 go_loop [23] (fun vi=>∃ k:Nat,k<=s.size/\vi=.int .i64 k) (fun i=>s.size-(intOf i).toNat)
 case atStart=>exact ⟨0,jo7 _,rfl⟩
 case round=>
  obtain ⟨k,hk,rfl⟩:=hrel;by_cases hlt:k<s.size
  ·have IN:=hid (fun w=>FX s[k] w);have hp:=HA.out k hlt;rw [hp] at IN;have hgl:=UInt8.toNat_lt s[k];clear hp;go_wp2_with fail
   refine (IN.out _).mono ?_;rintro e w1 ⟨rfl,rfl⟩;go_wp2
   go_round
   case rel=>exact ⟨k+1,by omega,by go_num⟩
   case measure=>simp [intOf];omega
  ·go_wp2;go_ret;exact ⟨rfl,rfl⟩
theorem uy (s:ByteArray) (w:jqz) : Calls Tryz.prog 117 #[.string s] w fun e w'=>e=.returned (.bool (pU s))/\w=w':=by
 have hs:s.toList=s.data.toList:=Lib.toList_data s;have HV:Hid (pU s=(s.toList==[98,114]||s.toList==[104,114]||s.toList==[105,109,103]||s.toList==[108,105,110,107]||s.toList==[109,101,116,97])):=by
  have e:∀ l:List UInt8,(s.toList==l)=decide (s=⟨l.toArray⟩):=fun l=>by
   rw [jo0,beq_iff_eq,decide_eq_true_iff,hs];constructor
   ·intro h;cases s with
    | mk d=>cases d;simp at h;simp [h]
   ·intro h;rw [h]
  show _=_;rw [e,e,e,e,e];rfl
 clear hs;generalize pU s=V at *;go_enter Tryz.func117,Tryz.ntmps117;go_wp2;all_goals
  go_ret;refine ⟨vP ?_,rfl⟩;rw [HV.out]
  simp_all
def PG (w:jqz) (keys:List ByteArray) (vi:Value) (wr:jqz):Prop:=∃ k:Nat,k<=keys.length/\vi=.int .i64 k/\dx wr w.heap.size k (keys.take k).reverse/\Below w.heap.size w wr
theorem IW (a:List Pr) (v:Value) (w:jqz) (hr:Rd (·<w.heap.size) w (bD a) [v]) (h:rZ [] a=0) (hl:a.length<=1000000000) (hv:∀ p∈a,p.val.size<=1000000000) : Calls Tryz.prog 118 #[v] w (bX (.int .i64 0) w):=by
 obtain ⟨aa,c,hvv,hs⟩:=Rd.aC hr;obtain ⟨n,hn⟩:∃ n,n=a.length:=⟨_,rfl⟩;obtain rfl:v=.slice aa n c:=by rw [hn];simpa using hvv
 have hc:n<=c:=by rw [hn];simpa using hs.le
 have hm:=hs.max;unfold maxLen at hm;have hn1:n<=1000000000:=by omega
 obtain ⟨h1,-,h3⟩:=lC a [] h;have H1:=hid h1;have H3:=hid h3;have HV:=hid hv;have HS:=hid hs;have HN:=hid hn;obtain ⟨w1,hw1⟩:∃ w1,w1=w.alloc (.map #[] 0):=⟨_,rfl⟩;have R0:Hid (PG w (a.map Pr.key) (.int .i64 0) w1):=⟨0,jo7 _,rfl,by rw [hw1];exact dx.made w,by rw [hw1];exact (jnk _ _).alloc (jnq _) _⟩;have HW1:=hid hw1;clear hr h hl hv hvv hs hn h1 h3 hw1;have hmm:=@run_makeMap Tryz.prog;go_enter Tryz.func118,Tryz.ntmps118;go_wp2;rw [<- HW1.out];clear hmm
 go_loopw [9] (fun vi wr=>PG w (a.map Pr.key) vi wr) (fun i _=>n-(intOf i).toNat)
 case atStart=>exact R0.out
 case round=>
  clear R0;obtain ⟨k,hk,rfl,hset,hbel⟩:=hrel;rw [jo2] at hk;by_cases hlt:k<n
  ·obtain ⟨x,hx⟩:∃ x,a[k]?=some x:=⟨_,jnj (by have:=HN.out;omega)⟩;have hxm:x∈a:=jo8 hx;obtain ⟨b,off,rfl,-,hb,hc0,hc1⟩:=iW HS.out hx;have r0:wr.cell? ⟨b,off+k*2,none⟩=some (.string x.key):=(hbel.cell (p:=⟨_,_,none⟩) hb).trans hc0;have r1:wr.cell? ⟨b,off+k*2+1,none⟩=some (.string x.val):=(hbel.cell (p:=⟨_,_,none⟩) hb).trans hc1;have Ho:Hid ((a.map Pr.key).take (k+1)=(a.map Pr.key).take k++[x.key]):=by show _=_;rw [List.take_add_one,List.getElem?_map,hx];rfl
   have hks:x.key.size<=1000000000:=by have ZC:=lQ (H1.out x hxm).1;rw [nD] at ZC;omega
   have Ye:hasB ((a.map Pr.key).take k) x.key=false:=by
    cases he:hasB ((a.map Pr.key).take k) x.key
    ·rfl
    ·rw [qP] at he;obtain ⟨j,hj,hjk⟩:=List.mem_iff_getElem.1 he;rw [jq9,jo2] at hj;rw [List.getElem_take,List.getElem_map] at hjk;exact absurd hjk (H3.out k j x a[j] (by omega) hx (jnj _))
   have NC:=hid (fun w=>xP x.key w (H1.out x hxm).1);have VC:=hid (fun w=>iF x.val w (HV.out x hxm));rw [(H1.out x hxm).2] at VC;obtain ⟨xk,xv⟩:=x;dsimp only at r0 r1 Ho hks Ye NC VC;obtain ⟨p,hp⟩:∃ p,p=wr.heap.size:=⟨_,rfl⟩;obtain ⟨w2,hw2⟩:∃ w2,w2=wr.alloc (.cells #[.string xk,.string xv] 61):=⟨_,rfl⟩;have k2:CB 61 p [.string xk,.string xv] w2:=by rw [hw2,hp];exact CB.new _ _ _
   have b2:Below wr.heap.size wr w2:=by rw [hw2];exact (jnk _ _).alloc (jnq _) _
   have K2:=hid k2;have ST2:=hid (hset.below b2);have B2:=hid (aU hbel b2);have jm2:w.heap.size≠p:=by have:=hset.lt;omega
   have c0:=k2.cell 0 _ rfl;have c1:=k2.cell 1 _ rfl;clear hx hxm hb hc0 hc1 k2 b2 hset hbel;go_upto_region 5 with (fail)
   rw [<- hw2,<- hp];clear hw2 hp r0 r1;go_wp2_with fail
   (with_reducible refine (NC.out _).mono ?_)
   rintro e w3 ⟨rfl,hw3⟩;rw [<- hw3];clear hw3 w3 NC;go_wp2_with fail
   (with_reducible refine (VC.out _).mono ?_)
   rintro e w3 ⟨rfl,q,rfl⟩;clear c0 c1;have STq:=hid (show dx (w2.drewN q) w.heap.size k ((a.map Pr.key).take k).reverse from ST2.out.below (gG (jnk _ _) q));have d0:(w2.drewN q).cell? ⟨p,0,none⟩=some (.string xk):=K2.out.cell 0 _ rfl;have d1:(w2.drewN q).cell? ⟨p,1,none⟩=some (.string xv):=K2.out.cell 1 _ rfl;have hlk:=STq.out.look xk (by unfold maxLen;omega);obtain ⟨w',hup,hS',hg⟩:=STq.out.put xk (by unfold maxLen;omega) (by unfold maxLen;omega);rw [lq,Ye] at hlk;have HF:Hid (PG w (a.map Pr.key) (.int .i64 ((k+1:Nat):Int)) w'):=⟨k+1,by rw [jo2];have:=HN.out;omega,rfl,by rw [Ho.out,List.reverse_append];exact hS',(gG B2.out q).grown hg B2.out.size (fun j hj=>by cases hj;exact jnq _)⟩;clear hS' hg Ye;go_wp2;go_roundw;case rel=>exact HF.out
   case measure=>simp [intOf];omega
  ·have HF:=hid hbel;clear hset hbel;go_wp2;go_ret;exact ⟨rfl,HF.out⟩
theorem Iu (N:Nat):∀ (x:Nd) (va vk:Value) (w:jqz),x.sz<=N->x.kW=0->x.tz->gF (·<w.heap.size) w x.at_ x.ks va vk -> Calls Tryz.prog 71 #[.agg #[.string x.nm,.string x.tx,va,vk]] w (bX (.int .i64 0) w):=by
 induction N using Nat.strongRecOn with
 | _ N ih=>
  intro x va vk w hN hck htz hA;obtain ⟨nm,tx,at_,ks⟩:=x;dsimp only [Nd.nm,Nd.tx,Nd.at_,Nd.ks] at hA ⊢;obtain ⟨a1,c1,h1,s1⟩:=Rd.aC hA.at_
  obtain ⟨a2,c2,h2,s2⟩:=Rd.aC hA.ks;obtain ⟨n1,hn1⟩:∃ n,n=at_.length:=⟨_,rfl⟩
  obtain ⟨n2,hn2⟩:∃ n,n=ks.length:=⟨_,rfl⟩;obtain rfl:va=.slice a1 n1 c1:=by rw [hn1];simpa using h1
  obtain rfl:vk=.slice a2 n2 c2:=by rw [hn2];simpa using h2
  have l2:=s2.le;rw [jo2,<- hn2] at l2;have m2:=s2.max;unfold maxLen at m2;rw [Nd.sz] at hN;rw [Nd.tz] at htz;obtain ⟨NH,JV,MW,JW⟩:=htz;rw [Nd.kW] at hck;have hks:=Nd.aZ ks;obtain ⟨S,hS⟩:∃ S,S=w.heap.size:=⟨_,rfl⟩;obtain ⟨W1,hW1⟩:∃ W,W=w.alloc (.cells #[.string nm,.string tx,.slice a1 n1 c1,.slice a2 n2 c2] 35):=⟨_,rfl⟩;have k0:CB 35 S [.string nm,.string tx,.slice a1 n1 c1,.slice a2 n2 c2] W1:=by rw [hW1,hS];exact CB.new _ _ w
  have bW:Below w.heap.size w W1:=by rw [hW1];exact (jnk _ _).alloc (jnq _) _
  have CL:Hid (∀ w':jqz,Below W1.heap.size W1 w'->w'.cell? ⟨S,0,none⟩=some (.string nm)/\w'.cell? ⟨S,1,none⟩=some (.string tx)/\w'.cell? ⟨S,2,none⟩=some (.slice a1 n1 c1)/\w'.cell? ⟨S,3,none⟩=some (.slice a2 n2 c2)):=fun w' hb=>⟨(k0.below hb).cell 0 _ rfl,(k0.below hb).cell 1 _ rfl,(k0.below hb).cell 2 _ rfl,(k0.below hb).cell 3 _ rfl⟩
  obtain ⟨e0,e1,e2,e3⟩:=CL.out W1 (jnk _ _);have EX:nm.toList.isEmpty=q01 nm:=by rw [Lib.toList_data,jo0,List.isEmpty_iff,q01,decide_eq_true_iff]
  have Z5:tx.toList.isEmpty=q01 tx:=by rw [Lib.toList_data,jo0,List.isEmpty_iff,q01,decide_eq_true_iff]
  have HA:=hid hA;have H2:=hid s2;have IH:=hid ih;have RX:=hid hks;have BW:=hid bW;have uZ:=hid hn2;have HN:=hid hN;have VC:=hid (iF tx W1 NH);by_cases hne:q01 nm=true
  ·rw [hne] at EX;rw [if_pos hne] at hck;split at hck
   ·cases hck
   rename_i g1
   split at hck
   ·cases hck
   rename_i g2
   have ha:n1=0:=by
    rw [hn1];cases at_ with
    | nil=>rfl
    | cons _ _=>exact absurd (.inl rfl) g1
   have hk:n2=0:=by
    rw [hn2];cases ks with
    | nil=>rfl
    | cons _ _=>exact absurd (.inr rfl) g1
   have ht:q01 tx=false:=by
    cases h3:q01 tx
    ·rfl
    ·exact absurd (.inl h3) g2
   have U9:fJ tx=true:=by
    cases h3:fJ tx
    ·exact absurd (.inr h3) g2
    ·rfl
   rw [ht] at Z5;rw [U9] at VC;clear hne hck g1 g2 hA h1 h2 s1 s2 ih hks k0 bW hn1 hn2 hN NH JV MW JW ht U9 uZ;subst ha hk;go_enter Tryz.func71,Tryz.ntmps71;go_upto_region 1 with (fail)
   rw [<- hW1,<- hS];clear hW1 hS;go_wp2_with fail
   (with_reducible refine VC.out.mono ?_)
   rintro e w2 ⟨rfl,q,rfl⟩;have HF:=hid (gG BW.out q);go_wp2;go_ret;exact ⟨rfl,HF.out⟩
  ·have hne:q01 nm=false:=by simpa using hne
   rw [hne] at EX;rw [if_neg (by rw [hne];simp)] at hck;split at hck
   ·cases hck
   rename_i g1
   split at hck
   ·cases hck
   rename_i g2
   split at hck
   ·rename_i g3;exact absurd hck g3
   rename_i g3
   have hnm:dG nm=true:=by simpa using g1
   have ht:q01 tx=true:=by
    cases h3:q01 tx
    ·exact absurd (.inl h3) g2
    ·rfl
   have hat:rZ [] at_=0:=by simpa using g3
   have hem:pU nm=true->n2=0:=fun h=>by
    rw [hn2];cases ks with
    | nil=>rfl
    | cons _ _=>exact absurd (.inr ⟨h,rfl⟩) g2
   obtain ⟨k1,-,k3⟩:=qQ ks _ hck;have htk:=(Nd.qR ks).1 JW;rw [ht] at Z5;have NC:=hid (xP nm W1 hnm);have EC:=hid (uy nm W1);have AC:=hid (IW at_ (.slice a1 n1 c1) W1 (hA.at_.up bW) hat MW JV);have K1:=hid k1;have K3:=hid k3;have TK:=hid htk;clear hne hck g1 g2 g3 hA h1 h2 s1 s2 ih hks k0 bW hn1 hn2 hN NH JV MW JW ht hnm hat k1 k3 htk VC;go_enter Tryz.func71,Tryz.ntmps71;go_upto_region 1 with (fail)
   rw [<- hW1,<- hS];clear hW1 hS;go_wp2_with fail
   (with_reducible refine NC.out.mono ?_)
   rintro e w2 ⟨rfl,hw2⟩;rw [<- hw2];clear hw2 w2 NC;go_wp2_with fail
   (with_reducible refine EC.out.mono ?_)
   rintro e w2 ⟨rfl,hw2⟩;rw [<- hw2];clear hw2 w2 EC;have hgt:(pU nm=true/\decide (0<n2)=false)\/pU nm=false:=by
    cases h:pU nm
    ·exact .inr rfl
    ·exact .inl ⟨rfl,by have:=hem h;simp;omega⟩
   clear hem;rcases hgt with ⟨q1,q2⟩ | q1
   all_goals
    go_wp2_with fail
    (with_reducible refine AC.out.mono ?_)
    rintro e w3 ⟨rfl,b3⟩;have B3:=hid (BW.out.trans (b3.mono BW.out.size));have R0:Hid (AtRel n2 W1 (.int .i64 0) w3):=⟨0,jo7 _,rfl,b3⟩;clear AC e0 e1 e2 e3 q1;obtain ⟨r0,r1,r2,r3⟩:=CL.out w3 b3;clear b3;go_wp2
    go_loopw [56] (fun vi wr=>AtRel n2 W1 vi wr) (fun i _=>n2-(intOf i).toNat)
    case atStart=>exact R0.out
    case round=>
     clear R0 r0 r1 r2 r3;obtain ⟨k,hk,rfl,hbel⟩:=hrel;obtain ⟨e0,e1,e2,e3⟩:=CL.out _ hbel;have HB:=hid hbel;by_cases hlt:k<n2
     ·obtain ⟨y,hy⟩:∃ y,ks[k]?=some y:=⟨_,jnj (by have:=uZ.out;omega)⟩;have hym:y∈ks:=jo8 hy;have Hu:=RX.out k y hy;have Va:=K1.out y hym;have Vb:=TK.out y hym;obtain ⟨yn,yt,ya,yk⟩:=y;obtain ⟨g1,o1,u1,u2,rfl,-,hg1,x0,x1,x2,x3,Cn⟩:=iX H2.out hy;obtain ⟨i1,i2,i3,rfl⟩:=Rd.au Cn.at_
      obtain ⟨i4,i5,i6,rfl⟩:=Rd.au Cn.ks;have Ea:=BW.out.trans (HB.out.mono BW.out.size);have y0:wr.cell? ⟨g1,o1+k*4,none⟩=some (.string yn):=(Ea.cell (p:=⟨_,_,none⟩) hg1).trans x0;have y1:wr.cell? ⟨g1,o1+k*4+1,none⟩=some (.string yt):=(Ea.cell (p:=⟨_,_,none⟩) hg1).trans x1;have y2:wr.cell? ⟨g1,o1+k*4+2,none⟩=some (.slice i1 i2 i3):=(Ea.cell (p:=⟨_,_,none⟩) hg1).trans x2;have y3:wr.cell? ⟨g1,o1+k*4+3,none⟩=some (.slice i4 i5 i6):=(Ea.cell (p:=⟨_,_,none⟩) hg1).trans x3;obtain ⟨p,hp⟩:∃ p,p=wr.heap.size:=⟨_,rfl⟩;obtain ⟨w4,hw4⟩:∃ w4,w4=wr.alloc (.cells #[.string yn,.string yt,.slice i1 i2 i3,.slice i4 i5 i6] 35):=⟨_,rfl⟩;have k4:CB 35 p [.string yn,.string yt,.slice i1 i2 i3,.slice i4 i5 i6] w4:=by rw [hw4,hp];exact CB.new _ _ _
      have b4:Below wr.heap.size wr w4:=by rw [hw4];exact (jnk _ _).alloc (jnq _) _
      have TH:=BW.out.trans ((aU HB.out b4).mono BW.out.size);have IC:Hid (Calls Tryz.prog 71 #[.agg #[.string yn,.string yt,.slice i1 i2 i3,.slice i4 i5 i6]] w4 (bX (.int .i64 0) w4)):=
       IH.out (Nd.mk yn yt ya yk).sz (by have:=HN.out;omega) (Nd.mk yn yt ya yk) _ _ w4 (jnq _) Va Vb (Cn.keep (fun b (hb:b<w.heap.size) _=>⟨Nat.lt_of_lt_of_le hb TH.size,TH.block b hb⟩))
      have zm:=hid (aU HB.out b4);obtain ⟨s0,s1,s2,s3⟩:=CL.out w4 zm.out;have u0:=k4.cell 0 _ rfl;have u1:=k4.cell 1 _ rfl;have u2:=k4.cell 2 _ rfl;have u3:=k4.cell 3 _ rfl;have qy:yn.toList.isEmpty=q01 yn:=by rw [Lib.toList_data,jo0,List.isEmpty_iff,q01,decide_eq_true_iff]
      have hgo:(k=0)\/(k≠0/\q01 yn=false)\/(k≠0/\q01 yn=true/\∃ zn,w4.cell? ⟨g1,o1+(k-1)*4,none⟩=some (.string zn)/\zn.toList.isEmpty=false):=by
       by_cases hk0:k=0
       ·exact .inl hk0
       cases hye:q01 yn
       ·exact .inr (.inl ⟨hk0,rfl⟩)
       ·refine .inr (.inr ⟨hk0,rfl,?_⟩);obtain ⟨z,hz⟩:∃ z,ks[k-1]?=some z:=⟨_,jnj (by have:=uZ.out;omega)⟩;have h3:=K3.out (k-1) z (.mk yn yt ya yk) hz (by rw [Nat.sub_add_cancel (by omega)];exact hy);obtain ⟨zn,zt,za,zk⟩:=z;obtain ⟨g1',o1',v1,v2,e',-,hg1',z0,-⟩:=iX H2.out hz;obtain ⟨rfl,rfl⟩:g1=g1'/\o1=o1':=by simpa using e'
        refine ⟨zn,(TH.cell (p:=⟨_,_,none⟩) hg1').trans z0,?_⟩;rw [Lib.toList_data];have h4:q01 zn=false:=by
         cases h:q01 zn
         ·rfl
         ·exact absurd ⟨h,hye⟩ h3
        unfold q01 at h4;simpa using h4
      clear hy hym Hu Va Vb x0 x1 x2 x3 Cn Ea hbel k4 b4 TH;have HR:Hid (∀ w5,Below W1.heap.size W1 w5->AtRel n2 W1 (.int .i64 ((k+1:Nat):Int)) w5):=fun w5 h=>⟨k+1,by omega,rfl,h⟩
      go_upto_region 17 with (fail)
      rw [<- hw4,<- hp];clear hw4 hp y0 y1 y2 y3 e0 e1 e2 e3;rcases hgo with h0 | ⟨h0,hye⟩ | ⟨h0,hye,zn,zc,zq⟩
      case' inl=>
       have h1:decide (0<k)=false:=by simp [h0]
       clear h0;go_wp2_with fail
      case' inr.inl=>
       have h1:0<k:=by omega
       rw [hye] at qy;clear hye h0;go_wp2_with fail
      case' inr.inr=>
       obtain ⟨k',rfl⟩:∃ k',k=k'+1:=⟨k-1,by omega⟩;rw [Nat.add_sub_cancel] at zc;rw [hye] at qy;clear hye h0;go_wp2_with fail
      all_goals
       (with_reducible refine IC.out.mono ?_)
       rintro e w5 ⟨rfl,b5⟩;have B5:=hid (aU zm.out b5);clear b5;go_wp2;go_roundw;case rel=>exact HR.out _ B5.out
       case measure=>simp [intOf];omega
     ·clear hbel;have HF:=hid (BW.out.trans (HB.out.mono BW.out.size));go_wp2;go_ret;exact ⟨rfl,HF.out⟩
end Go.Proofs.YtkfnkeflalcphaaGreatDoor

