/- Plain part: the page of a well-formed, resolved document is valid markup (blocks, notes, the page). Plain part: the pieces of a well-formed document are well-formed; the page with slides is valid markup. Plain part: what the walk of the nodes of blocks asks, where blocks stand that are no rows and no cells. publisherref04.Deep, List: inlines and blocks with those in them, in document order. publisherref04.List: blocks with those in them, in document order. The contract of publisherref04.Inlines: all inlines of blocks. Plain part: all inlines of blocks: theirs are among them; how large they are together; unresolved ones. Plain part: clean texts may be cut at plain signs; escaped texts of markup are clean, and hold no sign of markup. Plain part: the markup of nodes; what its bytes are where it is read. -/
import Derived.Test.YtkfnkeflalcphaaGreatDoorKNdW
import Derived.Test.YtkfnkeflalcphaaGreatDoorKRfD
namespace Go.Proofs.YtkfnkeflalcphaaGreatDoor
open List renaming mem_cons_self->jpz
set_option linter.unusedVariables false
set_option linter.unusedSimpArgs false
theorem gY (cl:ByteArray->Bool) {k lv:Int} {i t d ti:ByteArray} {a:At} {li:List aj} {ks:List ah} {par:Int} {dp:Nat} (h:(ah.mk k lv i t d ti a li ks).err cl par dp=0) : qN cl k lv i t d ti a li ks=0/\D7 k lv i t d ti a li ks=true/\ah.aR cl k (dp+1) ks=0:=by
 rw [ah.err] at h;split at h
 ·cases h
 ·split at h
  ·cases h
  ·rename_i hb
   split at h
   ·rename_i h1;exact absurd h h1
   ·rename_i h1
    refine ⟨Classical.not_not.1 h1,?_,h⟩;cases hx:D7 k lv i t d ti a li ks
    ·exact absurd (.inl hx) hb
    ·rfl
theorem Gf (cl:ByteArray->Bool) {k lv:Int} {i t d ti:ByteArray} {a:At} {li:List aj} {ks:List ah} (h2:qN cl k lv i t d ti a li ks=0) (hbf:D7 k lv i t d ti a li ks=true):vF li=0:=by
 unfold qN at h2;by_cases c1:k=1
 ·rw [if_pos c1] at h2;split at h2
  ·cases h2
  ·exact h2
 rw [if_neg c1] at h2;by_cases c2:k=2
 ·rw [if_pos c2] at h2;split at h2
  ·cases h2
  ·split at h2
   ·rename_i h3;exact absurd h2 h3
   ·split at h2
    ·cases h2
    ·exact h2
 rw [if_neg c2] at h2;by_cases c3:k=12
 ·rw [if_pos c3] at h2;split at h2
  ·cases h2
  ·exact h2
 ·have:li=[]:=by
   unfold D7 at hbf;simp only [Bool.and_eq_true] at hbf;have b8:=hbf.1.2;rw [Bool.or_eq_true] at b8;rcases b8 with b8 | b8
   ·simp at b8;omega
   ·simpa using b8
  rw [this];unfold vF;rw [aj.aR]
def sW (x:Nd):Prop:=x.kW=0/\q01 x.nm=false
def Qo (b:ah):Prop:=b.Rv=14->dH b.iOf/\∀ x∈ah.aS b.kids,sW x
mutual
theorem ah.Ug (cl:ByteArray->Bool):∀ (b:ah) (par:Int) (dp:Nat),b.err cl par dp=0->b.bq.any fu=false -> qm b/\(∀ c∈b.kids,qm c)/\(∀ x∈b.tZ,sW x)/\∀ y∈b.each,Qo y
 | .mk k lv i t d ti a li ks,par,dp,h,hu=>by
  obtain ⟨h2,hbf,h3⟩:=gY cl h;rw [ah.bq,List.any_append,Bool.or_eq_false_iff] at hu;have hln:Nd.iG false (iY li)=0:=Ql li (Gf cl h2 hbf) hu.1;obtain ⟨g1,g2,g3,g4⟩:=ah.rQ cl ks k (dp+1) h3 hu.2;have hK:=dX (ah.aS ks) g3;have hno:∀ s∈([]:List ByteArray),dH s:=by intro s hs;cases hs
  have hcls:dH pG:=by unfold dH;decide
  refine ⟨hln,g1,?_,?_⟩
  ·rw [ah.tZ];by_cases c1:k=1
   ·rw [if_pos c1];exact fQ (by decide) (.inl (by decide)) F8 hln
   rw [if_neg c1];by_cases c2:k=2
   ·rw [if_pos c2];unfold qN at h2;rw [if_neg c1,if_pos c2] at h2;split at h2
    ·cases h2
    ·rename_i h4
     split at h2
     ·rename_i h5;exact absurd h2 h5
     ·rename_i h5
      refine fQ (Yw _ (by omega)) (.inl ?_) (rM a [] (rJ a (Classical.not_not.1 h5)) hno) hln;have e:∀ (s:ByteArray),s.data.toList.length=2->s.data.toList[0]?=some 104->s.data.toList[1]?≠some 114->pU s=false:=by intro s hl h0 h1;unfold pU;simp only [Bool.or_eq_false_iff,decide_eq_false_iff_not];refine ⟨⟨⟨⟨?_,?_⟩,?_⟩,?_⟩,?_⟩<;>(rintro rfl;first | (simp [nBr] at h0;done) | (simp [Xm] at h1;done) | (simp [Sj] at hl;done) | (simp at hl;done) | (simp [jP] at hl;done))
      have hn:lv.toNat<10:=by omega
      have e2:(nH++dD lv.toNat).data.toList=[104,UInt8.ofNat (48+lv.toNat)]:=by rw [M8];unfold dD;rw [List.toList_toArray,Lib.decDigits,dif_pos hn];rfl
      refine e _ (by rw [e2];rfl) (by rw [e2];rfl) ?_;rw [e2];intro e3;have e4:=Option.some.inj e3;have e5:=congrArg UInt8.toNat e4;have e6:(UInt8.ofNat (48+lv.toNat)).toNat=48+lv.toNat:=by simp;omega
      rw [e6] at e5;have e7:(114:UInt8).toNat=114:=rfl;omega
   rw [if_neg c2];by_cases c3:k=3
   ·rw [if_pos c3];unfold qN at h2;rw [if_neg c1,if_neg c2,if_neg (by omega),if_pos c3] at h2;split at h2
    ·cases h2
    ·rename_i h4
     have hi:fJ i=true:=by
      cases h5:fH i
      ·exact absurd (.inl h5) h4
      ·exact eY h5
     have ht:fJ t=true:=by
      cases h5:jJ t
      ·exact absurd (.inr (.inr h5)) h4
      ·exact yu h5
     refine fQ (by decide) (.inl (by decide)) F8 (dX _ (fQ (by decide) (.inl (by decide)) (F9 _ _ Dp ?_) (iq t ht)));split
     ·exact jE
     ·exact lY _ _ (FM (by unfold dH;decide)) hi
   rw [if_neg c3];by_cases c4:k=4
   ·rw [if_pos c4];unfold qN at h2;rw [if_neg c1,if_neg c2,if_neg (by omega),if_neg c3,if_pos c4] at h2;split at h2
    ·cases h2
    ·rename_i h4
     split at h2
     ·cases h2
     ·exact fQ (by decide) (.inl (by decide)) (rM a [pG] (rJ a h2) (fun s hs=>by rw [List.mem_singleton] at hs;subst hs;exact hcls)) (iq t (yu (by simpa using h4)))
   rw [if_neg c4];by_cases c5:k=5
   ·rw [if_pos c5];exact fQ (by decide) (.inr rfl) F8 kK
   rw [if_neg c5];by_cases c6:k=6
   ·rw [if_pos c6];exact fQ (by decide) (.inl (by decide)) F8 hK
   rw [if_neg c6];by_cases c7:k=7
   ·rw [if_pos c7];exact fQ (by decide) (.inl (by decide)) F8 hK
   rw [if_neg c7];by_cases c8:k=8
   ·rw [if_pos c8];refine fQ (by decide) (.inl (by decide)) ?_ hK;split
    ·exact F8
    ·exact mQ _ _ (by decide) (FM (Mi _))
   rw [if_neg c8];by_cases c9:k=9
   ·rw [if_pos c9];exact fQ (by decide) (.inl (by decide)) F8 hK
   rw [if_neg c9];by_cases c10:k=10
   ·rw [if_pos c10];exact Mk i ks (fun r hr=>(g2 r hr))
   rw [if_neg c10];by_cases c13:k=13
   ·rw [if_pos c13];unfold qN at h2;rw [if_neg c1,if_neg c2,if_neg (by omega),if_neg c3,if_neg c4,if_neg (by omega),if_neg c10,if_pos (.inl c13)] at h2;split at h2
    ·cases h2
    ·rename_i h4
     exact fQ (by decide) (.inl (by decide)) (rM a [i] (rJ a h2) (fun s hs=>by rw [List.mem_singleton] at hs;subst hs;exact jC _ (by simpa using h4))) hK
   rw [if_neg c13];intro x hx;cases hx
  ·intro y hy;rw [ah.each] at hy;rcases List.mem_cons.1 hy with rfl | hy
   ·intro hk;have hk':k=14:=hk;unfold qN at h2;rw [if_neg (by omega),if_neg (by omega),if_neg (by omega),if_neg (by omega),if_neg (by omega),if_neg (by omega),if_neg (by omega),if_pos (.inr hk')] at h2;split at h2
    ·cases h2
    ·rename_i h4
     exact ⟨jC i (by simpa using h4),g3⟩
   ·exact g4 y hy
theorem ah.rQ (cl:ByteArray->Bool):∀ (l:List ah) (par:Int) (dp:Nat),ah.aR cl par dp l=0->(ah.bg l).any fu=false -> (∀ b∈l,qm b)/\(∀ b∈l,∀ c∈b.kids,qm c)/\(∀ x∈ah.aS l,sW x)/\∀ y∈ah.aI l,Qo y
 | [],_,_,_,_=>⟨(fun b hb=>by cases hb),(fun b hb=>by cases hb),(fun x hx=>by rw [ah.aS] at hx;cases hx),(fun y hy=>by rw [ah.aI] at hy;cases hy)⟩
 | b::l,par,dp,h,hu=>by
  rw [ah.aR] at h;rw [ah.bg,List.any_append,Bool.or_eq_false_iff] at hu;split at h
  ·rename_i h1;exact absurd h h1
  ·rename_i h1
   obtain ⟨a1,a2,a3,a4⟩:=ah.Ug cl b par dp (Classical.not_not.1 h1) hu.1;obtain ⟨b1,b2,b3,b4⟩:=ah.rQ cl l par dp h hu.2;refine ⟨fun c hc=>?_,fun c hc=>?_,fun x hx=>?_,fun y hy=>?_⟩
   ·rcases List.mem_cons.1 hc with rfl | hc
    ·exact a1
    ·exact b1 c hc
   ·rcases List.mem_cons.1 hc with rfl | hc
    ·exact a2
    ·exact b2 c hc
   ·rw [ah.aS] at hx;rcases List.mem_append.1 hx with hx | hx
    ·exact a3 x hx
    ·exact b3 x hx
   ·rw [ah.aI] at hy;rcases List.mem_append.1 hy with hy | hy
    ·exact a4 y hy
    ·exact b4 y hy
end
theorem Jc (cl:ByteArray->Bool) (l:List ah) (h:ah.aR cl 0 0 l=0) (hu:(ah.bg l).any fu=false):∀ x∈ig l,sW x:=by
 intro x hx;obtain ⟨b,hb,hxb⟩:=List.mem_flatMap.1 hx;have hg:=(ah.rQ cl l 0 0 h hu).2.2.2 b hb;obtain ⟨k,lv,i,t,d,ti,a,li,ks⟩:=b;have YA:x∈(if k=14 then [aO mH [⟨jZ,bY++i⟩,⟨eX,dK⟩] (ah.aS ks)] else []):=hxb;split at YA
 ·rename_i hk
  obtain ⟨q1,q2⟩:=hg hk;have q1':dH i:=q1;refine fQ (by decide) (.inl (by decide)) (Br _ ?_ ?_) (dX _ q2) x YA;case refine_2=>
   show [jZ,eX].Nodup;decide
  intro p hp;rcases List.mem_cons.1 hp with rfl | hp
  ·exact ⟨(show dG jZ=true by decide),FM (vG _ _ (by unfold dH;decide) q1')⟩
  ·rw [List.mem_singleton] at hp;subst hp;exact ⟨Dp,FM (by unfold dH;decide)⟩
 ·cases YA
theorem LY (cl:ByteArray->Bool) (l:List ah) (h:ah.aR cl 0 0 l=0) (hu:(ah.bg l).any fu=false):∀ x∈eB l,sW x:=by
 intro x hx;unfold eB at hx;rcases List.mem_append.1 hx with hx | hx
 ·exact (ah.rQ cl l 0 0 h hu).2.2.1 x hx
 ·split at hx
  ·cases hx
  ·exact fQ (by decide) (.inl (by decide)) (mQ _ _ Dp (FM (by unfold dH;decide))) (dX _ (Jc cl l h hu)) x hx
theorem LX (title lang:ByteArray) (body:List Nd) (ht:fJ title=true) (hl:fJ lang=true) (hb:∀ x∈body,sW x):(jd title lang body).kW=0:=by
 unfold jd;refine (xZ _ _ _ (by decide) (.inl (by decide)) (mQ _ _ (by decide) hl) (dX _ ?_)).1;intro x hx;rcases List.mem_cons.1 hx with rfl | hx
 ·refine xZ _ _ _ (by decide) (.inl (by decide)) F8 (dX _ ?_);intro y hy;rcases List.mem_cons.1 hy with rfl | hy
  ·exact xZ _ _ _ (by decide) (.inr rfl) (mQ _ _ (by decide) (FM (by unfold dH;decide))) kK
  ·rw [List.mem_singleton] at hy;subst hy;exact xZ _ _ _ (by decide) (.inl (by decide)) F8 (iq title ht)
 ·rw [List.mem_singleton] at hx;subst hx;exact xZ _ _ _ (by decide) (.inl (by decide)) F8 (dX _ hb)
theorem yE (cl:ByteArray->Bool) (par:Int) (dp:Nat):∀ (l:List ah),ah.aR cl par dp l=0↔∀ b∈l,b.err cl par dp=0
 | []=>by rw [ah.aR];exact ⟨fun _ b hb=>(by cases hb),fun _=>rfl⟩
 | x::l=>by
  rw [ah.aR];by_cases h:x.err cl par dp=0
  ·rw [if_neg (by simp [h]),yE cl par dp l];constructor
   ·intro h1 b hb;rcases List.mem_cons.1 hb with rfl | hb
    ·exact h
    ·exact h1 b hb
   ·exact fun h1 b hb=>h1 b (List.mem_cons_of_mem _ hb)
  ·rw [if_pos h];exact ⟨fun h1=>absurd h1 h,fun h1=>absurd (h1 x (jpz ..)) h⟩
theorem KH:∀ (l:List ah),(ah.bg l).any fu=false↔∀ b∈l,b.bq.any fu=false
 | []=>by rw [ah.bg];exact ⟨fun _ b hb=>(by cases hb),fun _=>rfl⟩
 | x::l=>by
  rw [ah.bg,List.any_append,Bool.or_eq_false_iff,KH l];constructor
  ·rintro ⟨h1,h2⟩ b hb;rcases List.mem_cons.1 hb with rfl | hb
   ·exact h1
   ·exact h2 b hb
  ·exact fun h=>⟨h x (jpz ..),fun b hb=>h b (List.mem_cons_of_mem _ hb)⟩
mutual
def ah.Ig:ah->Prop
 | .mk k lv i t d ti a li ks=>aj.Ij li/\(k=2\/k=8->0<=lv/\lv<=999999999)/\(k=10->ks≠[]/\∀ r∈ks,r.kids.length=i.size/\∀ c∈r.kids,aj.Ij c.mI)/\(∀ c∈a.cls,q01 c=false)/\(k=13->q01 i=false)/\k≠11/\k≠12/\(k≠10->ah.lK ks)
def ah.lK:List ah->Prop
 | []=>True
 | x::l=>x.Ig/\ah.lK l
end
theorem KI:∀ (l:List ah),(ah.bg l).any fu=false->∀ b∈l,og b.mI=false/\(ah.bg b.kids).any fu=false:=by intro l h b hb;have h1:=(KH l).1 h b hb;obtain ⟨k,lv,i,t,d,ti,a,li,ks⟩:=b;rw [ah.bq,List.any_append,Bool.or_eq_false_iff] at h1;exact h1
mutual
theorem ah.Qp (cl:ByteArray->Bool):∀ (b:ah) (par:Int) (dp:Nat),par≠10->par≠11->gV b.Rv par=true->b.err cl par dp=0->(b.bq).any fu=false->b.Ig
 | .mk k lv i t d ti a li ks,par,dp,hp0,hp1,hpl,h,hu=>by
  have hh:=ah.Kw cl _ par dp h hu;obtain ⟨h2,hbf,h3⟩:=gY cl h;rw [ah.hok] at hh;obtain ⟨g1,g2,g3,g4,g5,g6⟩:=hh;rw [ah.bq,List.any_append,Bool.or_eq_false_iff] at hu;have hk:k≠11/\k≠12:=by
   have hpl':gV k par=true:=hpl;unfold gV at hpl';split at hpl'
   ·have:=of_decide_eq_true hpl';omega
   ·(try rw [if_neg hp0,if_neg hp1] at hpl')
    simp at hpl';omega
  rw [ah.Ig];refine ⟨g1,g2,fun h10=>?_,g4,g5,hk.1,hk.2,fun h10=>ah.jF cl ks k (dp+1) h10 hk.1 h3 hu.2⟩;obtain ⟨q1,q2⟩:=g3 h10;refine ⟨q1,fun r hr=>⟨q2 r hr,fun c hc=>?_⟩⟩;have r1:=(yE cl k (dp+1) ks).1 h3 r hr;have r2:=KI ks hu.2 r hr;obtain ⟨k',lv',i',t',d',ti',a',li',ks'⟩:=r;obtain ⟨-,-,s3⟩:=gY cl r1;have c1:=(yE cl k' (dp+1+1) ks').1 s3 c hc;have c2:=KI ks' r2.2 c hc;obtain ⟨k9,lv9,i9,t9,d9,ti9,a9,li9,ks9⟩:=c;obtain ⟨u1,u2,-⟩:=gY cl c1;exact Dl li9 (Gf cl u1 u2) c2.1
theorem ah.jF (cl:ByteArray->Bool):∀ (l:List ah) (par:Int) (dp:Nat),par≠10->par≠11->ah.aR cl par dp l=0->(ah.bg l).any fu=false->ah.lK l
 | [],_,_,_,_,_,_=>by rw [ah.lK];trivial
 | x::l,par,dp,hp0,hp1,h,hu=>by
  have hpl:=(Bj cl (x::l) par dp h x (jpz ..)).1;rw [ah.aR] at h;rw [ah.bg,List.any_append,Bool.or_eq_false_iff] at hu;rw [ah.lK];split at h
  ·rename_i h1;exact absurd h h1
  ·rename_i h1
   exact ⟨ah.Qp cl x par dp hp0 hp1 hpl (Classical.not_not.1 h1) hu.1,ah.jF cl l par dp hp0 hp1 h hu.2⟩
end
theorem TA (cl:ByteArray->Bool) (l:List ah) (h:ah.aR cl 0 0 l=0) (hu:(ah.bg l).any fu=false):ah.lK l:=ah.jF cl l 0 0 (by decide) (by decide) h hu
mutual
theorem ah.Qq (cl:ByteArray->Bool):∀ (b:ah) (par:Int) (dp:Nat),b.err cl par dp=0->(b.bq).any fu=false->∀ x∈b.each,x.Rv=14->ah.lK x.kids
 | .mk k lv i t d ti a li ks,par,dp,h,hu,x,hx,hk=>by
  obtain ⟨-,-,h3⟩:=gY cl h;rw [ah.bq,List.any_append,Bool.or_eq_false_iff] at hu;rw [ah.each] at hx;rcases List.mem_cons.1 hx with rfl | hx
  ·have hk':k=14:=hk;subst hk';exact ah.jF cl ks 14 (dp+1) (by decide) (by decide) h3 hu.2
  ·exact ah.sQ cl ks k (dp+1) h3 hu.2 x hx hk
theorem ah.sQ (cl:ByteArray->Bool):∀ (l:List ah) (par:Int) (dp:Nat),ah.aR cl par dp l=0->(ah.bg l).any fu=false->∀ x∈ah.aI l,x.Rv=14->ah.lK x.kids
 | [],_,_,_,_,x,hx,_=>by rw [ah.aI] at hx;cases hx
 | b::l,par,dp,h,hu,x,hx,hk=>by
  rw [ah.aR] at h;rw [ah.bg,List.any_append,Bool.or_eq_false_iff] at hu;rw [ah.aI] at hx;split at h
  ·rename_i h1;exact absurd h h1
  ·rename_i h1
   rcases List.mem_append.1 hx with hx | hx
   ·exact ah.Qq cl b par dp (Classical.not_not.1 h1) hu.1 x hx hk
   ·exact ah.sQ cl l par dp h hu.2 x hx hk
end
open Go.RowKit
section
variable {T:TypeId} {k B:Nat} {w0 w w1 w2:World} {ds es:List D} {rows bE:List (List Value)} {v v':Value}
end
open Go.RowKit
open Go.RowKit
mutual
theorem ah.Qr:∀ (b:ah),b.bq=b.inls
 | .mk k lv i t d ti a li ks=>by rw [ah.bq,ah.inls,ah.lS ks]
theorem ah.lS:∀ (l:List ah),ah.bg l=ah.aM l
 | []=>by rw [ah.bg,ah.aM]
 | x::l=>by rw [ah.bg,ah.aM,ah.Qr x,ah.lS l]
end
theorem Dz (n N b0 b1 b2 b3 c1 c2 c3:Nat) (hn:1<=n) (hN:n<N) (h1:1<n->c1=b1) (h2:2<n->c2=b2) (h3:3<n->c3=b3) (e1:n=1->c1<128) (e2:n=2->c2<128) (e3:n=3->c3<128) (h:Lib.decodeN N b0 c1 c2 c3≠(65533,1)) : Lib.decodeN n b0 b1 b2 b3=Lib.decodeN N b0 c1 c2 c3/\(Lib.decodeN N b0 c1 c2 c3).2<=n:=by
 have key:Lib.decodeN n b0 b1 b2 b3≠(65533,1)->Lib.decodeN n b0 b1 b2 b3=Lib.decodeN N b0 c1 c2 c3/\(Lib.decodeN N b0 c1 c2 c3).2<=n:=by intro h9;obtain ⟨k1,k2⟩:=decodeN_more n N b0 b1 b2 b3 c1 c2 c3 hn (Nat.le_of_lt hN) h1 h2 h3 h9;exact ⟨k1.symm,by rw [k1];exact k2⟩
 refine key fun hb=>h ?_
 have hb':=hb;unfold Lib.decodeN at hb ⊢;by_cases a0:b0<128
 ·rw [if_pos a0] at hb;injection hb with hb1 hb2
  omega
 rw [if_neg a0] at hb ⊢;by_cases a1:b0/32=6/\(1<N/\c1/64=2)
 ·obtain ⟨p1,p2,p3⟩:=a1;have hn1:1<n:=by
   rcases Nat.lt_or_ge 1 n with h9 | h9
   ·exact h9
   ·have:=e1 (by omega);omega
  obtain rfl:=h1 hn1;rw [if_pos (show b0/32=6/\(1<n/\c1/64=2) from ⟨p1,hn1,p3⟩)] at hb;rw [if_pos (show b0/32=6/\(1<N/\c1/64=2) from ⟨p1,p2,p3⟩)];exact hb
 rw [if_neg a1];by_cases a2:b0/16=14/\(1<N/\c1/64=2)/\(2<N/\c2/64=2)
 ·obtain ⟨p1,⟨p2,p3⟩,p4,p5⟩:=a2;have hn1:1<n:=by
   rcases Nat.lt_or_ge 1 n with h9 | h9
   ·exact h9
   ·have:=e1 (by omega);omega
  obtain rfl:=h1 hn1;have hn2:2<n:=by
   rcases Nat.lt_or_ge 2 n with h9 | h9
   ·exact h9
   ·have:=e2 (by omega);omega
  obtain rfl:=h2 hn2;rw [if_neg (show ¬ (b0/32=6/\(1<n/\c1/64=2)) from fun h=>by omega),if_pos (show b0/16=14/\(1<n/\c1/64=2)/\(2<n/\c2/64=2) from ⟨p1,⟨hn1,p3⟩,hn2,p5⟩)] at hb;rw [if_pos (show b0/16=14/\(1<N/\c1/64=2)/\(2<N/\c2/64=2) from ⟨p1,⟨p2,p3⟩,p4,p5⟩)];exact hb
 rw [if_neg a2];by_cases a3:b0/8=30/\(1<N/\c1/64=2)/\(2<N/\c2/64=2)/\(3<N/\c3/64=2)
 ·obtain ⟨p1,⟨p2,p3⟩,⟨p4,p5⟩,p6,p7⟩:=a3;have hn1:1<n:=by
   rcases Nat.lt_or_ge 1 n with h9 | h9
   ·exact h9
   ·have:=e1 (by omega);omega
  obtain rfl:=h1 hn1;have hn2:2<n:=by
   rcases Nat.lt_or_ge 2 n with h9 | h9
   ·exact h9
   ·have:=e2 (by omega);omega
  obtain rfl:=h2 hn2;have Zf:3<n:=by
   rcases Nat.lt_or_ge 3 n with h9 | h9
   ·exact h9
   ·have:=e3 (by omega);omega
  obtain rfl:=h3 Zf;rw [if_neg (show ¬ (b0/32=6/\(1<n/\c1/64=2)) from fun h=>by omega),if_neg (show ¬ (b0/16=14/\(1<n/\c1/64=2)/\(2<n/\c2/64=2)) from fun h=>by omega),if_pos (show b0/8=30/\(1<n/\c1/64=2)/\(2<n/\c2/64=2)/\(3<n/\c3/64=2) from ⟨p1,⟨hn1,p3⟩,⟨hn2,p5⟩,Zf,p7⟩)] at hb;rw [if_pos (show b0/8=30/\(1<N/\c1/64=2)/\(2<N/\c2/64=2)/\(3<N/\c3/64=2) from ⟨p1,⟨p2,p3⟩,⟨p4,p5⟩,p6,p7⟩)];exact hb
 rw [if_neg a3]
def DF (t:ByteArray):Prop:=∃ c m,t.data.toList=c::m/\c.toNat<128
theorem Uh (s t:ByteArray) (ht:DF t) (i:Nat) (hi:i<s.size) (hok:jX (Utf8.decode (s++t) i)=true):Utf8.decode s i=Utf8.decode (s++t) i/\i+(Utf8.decode (s++t) i).2<=s.size:=by
 obtain ⟨c,m,ht,hc⟩:=ht;have hl:=nD s;have hne:Utf8.decode (s++t) i≠(65533,1):=fun e=>by rw [e,Gg] at hok;cases hok
 have hat:∀ j,s.data.toList.length=i+j->((s.data.toList++t.data.toList).getD (i+j) 0).toNat<128:=by intro j hj;have h1:=l6 s.data.toList t.data.toList 0;rw [Nat.add_zero,hj] at h1;rw [h1,ht];exact hc
 rw [Lib.decode_N,M8,Ui s.data.toList _ i (by omega)] at hne;have hb:=Dz (s.data.toList.length-i) ((s.data.toList++t.data.toList).length-i) (s.data.toList.getD i 0).toNat (s.data.toList.getD (i+1) 0).toNat (s.data.toList.getD (i+2) 0).toNat (s.data.toList.getD (i+3) 0).toNat
  ((s.data.toList++t.data.toList).getD (i+1) 0).toNat ((s.data.toList++t.data.toList).getD (i+2) 0).toNat ((s.data.toList++t.data.toList).getD (i+3) 0).toNat (by omega) (by rw [List.length_append,ht,List.length_cons];omega)
  (fun h=>by rw [Ui _ _ _ (by omega)]) (fun h=>by rw [Ui _ _ _ (by omega)]) (fun h=>by rw [Ui _ _ _ (by omega)])
  (fun h=>hat 1 (by omega)) (fun h=>hat 2 (by omega)) (fun h=>hat 3 (by omega)) hne
 rw [Lib.decode_N s,Lib.decode_N (s++t),M8,Ui s.data.toList _ i (by omega)];refine ⟨hb.1,?_⟩;have:=hb.2;omega
theorem KJ (s t:ByteArray) (ht:DF t):∀ (F i f:Nat),i<=s.size->s.size+t.size<=i+F->s.size<=i+f->(bR (s++t) F i).all jX=true->(bR s f i).all jX=true/\(bR t t.size 0).all jX=true
 | F,i,f,hi,hF,hf,hok=>by
  by_cases h:i<s.size
  ·cases F with
   | zero=>omega
   | succ F=>
    cases f with
    | zero=>omega
    | succ f=>
     rw [bR,if_pos (by rw [ByteArray.size_append];omega),List.all_cons,Bool.and_eq_true] at hok;obtain ⟨hd,hw⟩:=Uh s t ht i h hok.1;have hw1:=Lib.decode_width_pos (s++t) i (by rw [ByteArray.size_append];omega);obtain ⟨r1,r2⟩:=KJ s t ht F (i+(Utf8.decode (s++t) i).2) f hw (by omega) (by omega) hok.2;rw [bR,if_pos h,List.all_cons,hd];exact ⟨by rw [hok.1,r1];rfl,r2⟩
  ·have e:i=s.size:=by omega
   subst e;have h2:=yF s t F 0;rw [Nat.add_zero] at h2;rw [h2] at hok;rw [jH s f _ h,yG t t.size F 0 (by omega) (by omega)];exact ⟨rfl,hok⟩
theorem Mq (s t:ByteArray) (ht:DF t) (h:fJ (s++t)=true):fJ s=true/\fJ t=true:=by unfold fJ pts at h ⊢;exact KJ s t ht (s++t).size 0 s.size (by omega) (by rw [ByteArray.size_append];omega) (by omega) h
def gJ (c:UInt8):List UInt8:=if c=38 then [38,97,109,112,59] else if c=60 then [38,108,116,59] else if c=62 then [38,103,116,59] else if c=34 then [38,113,117,111,116,59] else [c]
def q24 (l:List UInt8):List UInt8:=l.flatMap gJ
def nY (s:ByteArray):ByteArray:=kJ (q24 s.data.toList)
theorem Uj (c:UInt8):∀ b∈gJ c,b≠60/\b≠62/\b≠34:=by
 unfold gJ;split
 ·decide
 ·split
  ·decide
  ·split
   ·decide
   ·split
    ·decide
    ·intro b hb;rw [List.mem_singleton] at hb;subst hb;refine ⟨?_,?_,?_⟩<;>assumption
theorem Df (l:List UInt8):∀ b∈q24 l,b≠60/\b≠62/\b≠34:=by intro b hb;obtain ⟨c,-,h⟩:=List.mem_flatMap.1 hb;exact Uj c b h
def fV (c:UInt8):Bool:=decide (c=38)||decide (c=60)||decide (c=62)||decide (c=34)
theorem sZ:∀ (l:List UInt8),(∀ c∈l,fV c=false)->q24 l=l
 | [],_=>rfl
 | c::l,h=>by
  have hc:=h c (jpz ..);unfold fV at hc;simp only [Bool.or_eq_false_iff,decide_eq_false_iff_not] at hc;obtain ⟨⟨⟨h1,h2⟩,h3⟩,h4⟩:=hc;unfold q24;rw [List.flatMap_cons];have e:gJ c=[c]:=by unfold gJ;rw [if_neg h1,if_neg h2,if_neg h3,if_neg h4]
  rw [e];have:=sZ l (fun x hx=>h x (List.mem_cons_of_mem _ hx));unfold q24 at this;rw [this];rfl
theorem Qs (c:UInt8) (h:fV c=true):dH (kJ (gJ c)):=by unfold fV at h;simp only [Bool.or_eq_true,decide_eq_true_eq] at h;unfold gJ kJ dH;rcases h with ((rfl | rfl) | rfl) | rfl<;>decide
theorem Uk {c:UInt8} (h:fV c=true):c.toNat<128:=by unfold fV at h;simp only [Bool.or_eq_true,decide_eq_true_eq] at h;rcases h with ((rfl | rfl) | rfl) | rfl<;>decide
theorem kI (l:List UInt8):(kJ l).data.toList=l:=by unfold kJ;simp
theorem Jd (n:Nat):∀ (l:List UInt8),l.length<=n->fJ (kJ l)=true->fJ (kJ (q24 l))=true:=by
 induction n with
 | zero=>
  intro l hl h;rw [List.eq_nil_of_length_eq_zero (Nat.le_zero.1 hl)];exact jE
 | succ n ih=>
  intro l hl h;have hsp:l=l.takeWhile (fun c=>!fV c)++l.dropWhile (fun c=>!fV c):=(List.takeWhile_append_dropWhile ..).symm;have hp:∀ c∈l.takeWhile (fun c=>!fV c),fV c=false:=by
   have:∀ (m:List UInt8),∀ c∈m.takeWhile (fun c=>!fV c),fV c=false:=by
    intro m;induction m with
    | nil=>intro c hc;cases hc
    | cons x m ihm=>
     intro c hc;rw [List.takeWhile_cons] at hc;split at hc
     ·rename_i hx
      rcases List.mem_cons.1 hc with rfl | hc
      ·simpa using hx
      ·exact ihm c hc
     ·cases hc
   exact this l
  cases hd:l.dropWhile (fun c=>!fV c) with
  | nil=>
   rw [hd,List.append_nil] at hsp;rw [hsp] at h ⊢;rw [sZ _ hp];exact h
  | cons c m=>
   have hc:fV c=true:=by
    have:∀ (q:List UInt8),q.dropWhile (fun c=>!fV c)=c::m->fV c=true:=by
     intro q;induction q with
     | nil=>intro h;simp at h
     | cons x q ihq=>
      intro h;rw [List.dropWhile_cons] at h;split at h
      ·exact ihq h
      ·rename_i hx
       injection h with h1 h2
       subst h1;simpa using hx
    exact this l hd
   rw [hd] at hsp;have hlen:m.length<=n:=by have:=congrArg List.length hsp;rw [List.length_append,List.length_cons] at this;omega
   have e1:kJ l=kJ (l.takeWhile fun c=>!fV c)++kJ (c::m):=by conv=>lhs;rw [hsp];rw [yj]
   rw [e1] at h;obtain ⟨v1,v2⟩:=Mq _ _ ⟨c,m,kI _,Uk hc⟩ h;have e2:kJ (c::m)=kJ [c]++kJ m:=by rw [<- yj];rfl
   have v3:fJ (kJ m)=true:=by
    cases m with
    | nil=>exact jE
    | cons x m'=>
     have hc1:dH (kJ [c]):=by unfold fV at hc;simp only [Bool.or_eq_true,decide_eq_true_eq] at hc;unfold kJ dH;rcases hc with ((rfl | rfl) | rfl) | rfl<;>decide
     have h5:=yH (kJ [c]) (kJ (x::m')) (kJ [c]).size 0 (kJ [c]++kJ (x::m')).size (by omega) (by omega) (DI _ hc1 _ _) (by rw [ByteArray.size_append];omega);rw [e2] at v2;unfold fJ pts at v2 ⊢;rw [h5,List.all_append,Bool.and_eq_true] at v2;exact v2.2
   have e3:q24 l=l.takeWhile (fun c=>!fV c)++(gJ c++q24 m):=by
    conv=>lhs;rw [hsp]
    unfold q24;rw [List.flatMap_append,List.flatMap_cons];have:=sZ _ hp;unfold q24 at this;rw [this]
   rw [e3,yj,yj];exact lY _ _ v1 (lY _ _ (FM (Qs c hc)) (ih m hlen v3))
theorem Bc (s:ByteArray) (h:fJ s=true):fJ (nY s)=true:=Jd _ s.data.toList (Nat.le_refl _) (by rw [vD];exact h)
def bG (a:List Pr):List UInt8:=a.flatMap fun p=>32::(p.key.data.toList++(61::34::(q24 p.val.data.toList++[34])))
mutual
def Nd.iO:Nd->List UInt8
 | .mk n t a ks=>if q01 n=true then q24 t.data.toList
   else 60::(n.data.toList++(bG a++(if pU n=true then [47,62] else 62::(Nd.aX ks++(60::47::(n.data.toList++[62]))))))
def Nd.aX:List Nd->List UInt8
 | []=>[]
 | x::l=>x.iO++Nd.aX l
end
theorem xD (l m:List Nd):Nd.aX (l++m)=Nd.aX l++Nd.aX m:=by
 induction l with
 | nil=>rw [Nd.aX];rfl
 | cons x l ih=>rw [List.cons_append,Nd.aX,Nd.aX,ih,List.append_assoc]
theorem sO (l:List Nd) (k:Nat) (x:Nd) (h:l[k]?=some x):Nd.aX (l.take (k+1))=Nd.aX (l.take k)++x.iO:=by rw [List.take_add_one,h,xD];simp [Nd.aX]
theorem sN (l:List Pr) (k:Nat) (p:Pr) (h:l[k]?=some p):bG (l.take (k+1))=bG (l.take k)++32::(p.key.data.toList++(61::34::(q24 p.val.data.toList++[34]))):=by unfold bG;rw [List.take_add_one,h,List.flatMap_append];simp
theorem AU (l:List UInt8) (k:Nat) (c:UInt8) (h:l[k]?=some c):q24 (l.take (k+1))=q24 (l.take k)++gJ c:=by unfold q24;rw [List.take_add_one,h,List.flatMap_append];simp
theorem Ko {s:ByteArray} (h:dG s=true):(∀ c∈s.data.toList,fA c=true)/\∃ c m,s.data.toList=c::m/\Ck c=true:=by
 unfold dG at h;simp only [Bool.and_eq_true] at h;refine ⟨List.all_eq_true.1 h.1.1.1,?_⟩;have h2:=h.2;split at h2
 ·rename_i c m hm
  exact ⟨c,m,hm,h2⟩
 ·cases h2
theorem nZ {x:Nd} (h:x.kW=0):(q01 x.nm=false->∃ m,x.iO=60::m)/\(q01 x.nm=true->x.iO=q24 x.tx.data.toList/\x.iO≠[]):=by
 obtain ⟨n,t,a,ks⟩:=x;constructor
 ·intro hn;have hn':q01 n=false:=hn;rw [Nd.iO,if_neg (by rw [hn'];simp)];exact ⟨_,rfl⟩
 ·intro hn;obtain ⟨-,e2,-⟩:=mP hn h;have hn':q01 n=true:=hn;rw [Nd.iO,if_pos hn'];refine ⟨rfl,fun e=>?_⟩;have e2':q01 t=false:=e2;unfold q01 at e2';rw [decide_eq_false_iff_not] at e2';cases ht:t.data.toList with
  | nil=>exact e2' ht
  | cons c m=>
   rw [ht] at e;unfold q24 at e;rw [List.flatMap_cons] at e;have:=(List.append_eq_nil_iff.1 e).1;unfold gJ at this;split at this
   ·cases this
   ·split at this
    ·cases this
    ·split at this
     ·cases this
     ·split at this<;>cases this
end Go.Proofs.YtkfnkeflalcphaaGreatDoor

