/- Contracts of boxes.Check and of the reference's Check of boxes: the first error. Contract of the reference's Check of boxes. -/
import Derived.Test.YtnmldmofggkoeaaGreatDoorKBxN
import Derived.Test.YtnmldmofggkoeaaGreatDoorKRfD
set_option maxHeartbeats 8000000
set_option maxRecDepth 100000
open Go.Lib (hid)
namespace Go.Proofs.YtnmldmofggkoeaaGreatDoor
open List renaming getElem?_eq_getElem->XR,length_append->XZ,length_map->X0,mem_of_getElem?->X9,take_add_one->Yg,take_length->Yi
open Go.RowKit.Below renaming refl->XT
open Nat renaming zero_le->X8
open Go.RowKit
set_option linter.unusedVariables false
set_option linter.unusedSimpArgs false
def fA (seen:List ByteArray) (g:Int) (x:Bx):Nat:=if x.ht<1\/1048576<x.ht then 9 else if bE x.text=false then 17 else if x.gr<g then 5 else jZ seen x.an
def aX (seen:List ByteArray) (g:Int):List Bx->Nat
 | []=>0
 | x::l=>if fA seen g x≠0 then fA seen g x else aX (seen++x.an) x.gr l
def cO (l:List Bx):Nat:=if 4096<l.length then 3 else aX [] 0 l
def dW (l:List Bx) (k:Nat):List ByteArray:=((l.take k).map Bx.an).flatten
structure Bx.fine (x:Bx):Prop where
 t:x.text.size<=1000000
 n:x.an.length<=1000
 a:∀ s∈x.an,s.size<=1000000
theorem jJ {l:List Bx} {k:Nat} {x:Bx} (h:l[k]?=some x):dW l (k+1)=dW l k++x.an:=by unfold dW;rw [Yg,h];simp
theorem lH (l:List Bx) (h:∀ x∈l,x.fine):∀ k,(dW l k).length<=1000*k
 | 0=>by simp [dW]
 | k+1=>by
  have ih:=lH l h k;cases hx:l[k]? with
  | none=>unfold dW at ih ⊢;rw [Yg,hx];simp at ih ⊢;omega
  | some x=>
   rw [jJ hx,XZ];have:=(h x (X9 hx)).n;omega
theorem gM {ok:Nat->Prop} {w:World} {l:List Bx} {a:Option Addr} {cap:Nat} (h:lD ok w 6 (l.map Bx.d) a cap) {k:Nat} {t:ByteArray} {ht gr:Int} {kp fl:Bool} {an:List ByteArray} (hk:l[k]?=some ⟨t,ht,gr,kp,fl,an⟩) : ∃ b off va,a=some ⟨b,off,none⟩/\ok b/\b<w.heap.size/\(w.cell? ⟨b,off+k*6,none⟩=some (.string t)/\w.cell? ⟨b,off+k*6+1,none⟩=some (.int .i64 ht)/\w.cell? ⟨b,off+k*6+2,none⟩=some (.int .i64 gr)/\w.cell? ⟨b,off+k*6+3,none⟩=some (.bool kp)/\w.cell? ⟨b,off+k*6+4,none⟩=some (.bool fl)/\w.cell? ⟨b,off+k*6+5,none⟩=some va)/\Rd ok w (dL an) [va]:=by
 have hlt:k<l.length:=(List.getElem?_eq_some_iff.1 hk).1;obtain ⟨b,off,ha,hok,hb,hc⟩:=h.at_ (by simpa using Nat.lt_of_le_of_lt (X8 _) hlt)
 obtain ⟨r,hr,hl,hcell⟩:=hc k _ (by rw [List.getElem?_map,hk];rfl);obtain ⟨va,rfl,hv⟩:=Bx.open_ hr;refine ⟨b,off,va,ha,hok,hb,⟨hcell 0 _ rfl,?_,?_,?_,?_,?_⟩,hv⟩
 ·rw [Nat.add_assoc];exact hcell 1 _ rfl
 ·rw [Nat.add_assoc];exact hcell 2 _ rfl
 ·rw [Nat.add_assoc];exact hcell 3 _ rfl
 ·rw [Nat.add_assoc];exact hcell 4 _ rfl
 ·rw [Nat.add_assoc];exact hcell 5 _ rfl
def G6 (w:World) (mb:Nat) (l:List Bx) (V:Nat) (vg vi:Value) (wr:World):Prop:=
 ∃ (k:Nat) (g:Int),k<=l.length/\vi=.int .i64 k/\vg=.int .i64 g/\aU wr mb (dW l k).length (dW l k).reverse/\Below w.heap.size w wr/\aX (dW l k) g (l.drop k)=V
def G7 (w:World) (mb:Nat) (seen cls:List ByteArray) (E:Nat) (vi:Value) (wr:World):Prop:=
 ∃ j:Nat,j<=cls.length/\vi=.int .i64 j/\aU wr mb (seen.length+j) (seen++cls.take j).reverse/\Below w.heap.size w wr/\jZ (seen++cls.take j) (cls.drop j)=E
theorem iH (l:List Bx) (v:Value) (w:World) (h:Rd (·<w.heap.size) w (.sl 6 (l.map Bx.d)) [v]) (hf:∀ x∈l,x.fine) : Calls Tryz.prog 8 #[v] w (dA (.int .i64 (cO l:Nat)) w):=by
 obtain ⟨a,c,hv,hs⟩:=Rd.aC h;obtain ⟨n,hn⟩:∃ n,n=l.length:=⟨_,rfl⟩;obtain rfl:v=.slice a n c:=by rw [hn];simpa using hv
 have hcap:n<=c:=by have:=hs.le;rw [X0] at this;omega
 have hmx:=hs.max;unfold maxLen at hmx;have HE:Hid (cO l=if 4096<n then 3 else aX [] 0 l):=by rw [hn];rfl
 obtain ⟨V,hV⟩:∃ V,V=cO l:=⟨_,rfl⟩;rw [<- hV] at HE ⊢;have HN:=hid hn;have HSL:=hid hs;have HF:=hid hf;clear h hv hn hs hf hV;by_cases hbig:4096<n
 ·have q1:decide ((4096:Int)<(n:Int))=true:=by simp;omega
  have HV:Hid (V=3):=by show V=3;rw [HE.out,if_pos hbig]
  clear hbig HE;go_enter Tryz.func8,Tryz.ntmps8;go_wp2;go_ret;exact ⟨by rw [HV.out];rfl,XT _ _⟩
 have q1:decide ((4096:Int)<(n:Int))=false:=by simp;omega
 have zq:Hid (V=aX [] 0 l):=by show V=_;rw [HE.out,if_neg hbig]
 obtain ⟨mb,hmb⟩:∃ mb,mb=w.heap.size:=⟨_,rfl⟩;obtain ⟨w1,hw1⟩:∃ w1,w1=w.alloc (.map #[] 0):=⟨_,rfl⟩;have R0:Hid (G6 w mb l V (.int .i64 0) (.int .i64 0) w1):=⟨0,0,X8 _,rfl,rfl,by rw [hw1,hmb];exact aU.made w,by rw [hw1];exact (XT _ _).alloc (Nat.le_refl _) _,zq.out.symm⟩;have U7:=hid hmb;have hmm:=@run_makeMap Tryz.prog;clear HE zq;go_enter Tryz.func8,Tryz.ntmps8;go_wp2;rw [<- hw1,<- hmb];clear hmm hw1 hmb q1
 go_loopw [4,15] (fun vg vi wr=>G6 w mb l V vg vi wr) (fun _ vi _=>n-(intOf vi).toNat)
 case atStart=>exact R0.out
 case round=>
  clear R0;obtain ⟨k,g,hk,rfl,rfl,hset,hbel,aG⟩:=hrel;by_cases hlt:k<n
  ·obtain ⟨y,hy⟩:∃ y,l[k]?=some y:=⟨_,XR (by have:=HN.out;omega)⟩;have Jh:=HF.out y (X9 hy);rw [BS l k y hy] at aG;have Cu:=jJ hy;have Cv:=lH l HF.out k;obtain ⟨yt,yh,yg,yk,yf,ya⟩:=y;obtain ⟨b,off,va,rfl,-,hbl,⟨c0,c1,c2,c3,c4,c5⟩,hva⟩:=gM HSL.out hy;have e1:∀ j x,w.cell? ⟨b,j,none⟩=some x->wr.cell? ⟨b,j,none⟩=some x:=fun j x e=>by rw [hbel.cell (p:=⟨b,j,none⟩) (fJ e)];exact e
   have c0:=e1 _ _ c0;have c1:=e1 _ _ c1;have c2:=e1 _ _ c2;have c3:=e1 _ _ c3;have c4:=e1 _ _ c4;have c5:=e1 _ _ c5;obtain ⟨aa,ca,ug,hsa⟩:=Rd.aC hva;obtain ⟨na,hna⟩:∃ na,na=ya.length:=⟨_,rfl⟩;obtain rfl:va=.slice aa na ca:=by rw [hna];simpa using ug
   have hca:na<=ca:=by have:=hsa.le;rw [X0] at this;omega
   have Cw:=hsa.max;unfold maxLen at Cw;have Ji:na<=1000:=by have:=Jh.n;rw [hna];exact this
   obtain ⟨q,hq⟩:∃ q,q=wr.heap.size:=⟨_,rfl⟩;obtain ⟨wq,hwq⟩:∃ wq,wq=wr.alloc (.cells #[.string yt,.int .i64 yh,.int .i64 yg,.bool yk,.bool yf,.slice aa na ca] 37):=⟨_,rfl⟩;have kq:CB 37 q [.string yt,.int .i64 yh,.int .i64 yg,.bool yk,.bool yf,.slice aa na ca] wq:=by rw [hwq,hq];exact CB.new _ _ _
   have bq:Below wr.heap.size wr wq:=by rw [hwq];exact (XT _ _).alloc (Nat.le_refl _) _
   have SQ:=hid (hset.below bq);have BQ:=hid (aL hbel bq);have KQ:=hid kq;have d0:=kq.cell 0 _ rfl;have d1:=kq.cell 1 _ rfl;have HY:=hid hy;have Md:=hid Jh;have Jj:=hid hsa;have tq:=hid hna;have aT:=hid aG;have Cx:=hid Cu;have Jk:=hid Cv;clear hset hbel hy Jh aG Cu Cv hva ug hsa hna kq bq hbl e1;by_cases hh:yh<1\/1048576<yh
   ·have HV:Hid (V=9):=by
     show V=9;have h:=aT.out;rw [aX,show fA (dW l k) g ⟨yt,yh,yg,yk,yf,ya⟩=9 from by unfold fA;rw [if_pos hh]] at h;rw [<- h];rfl
    rcases hh with hh | hh
    case' inl=>
     have q1:decide (yh<1)=true:=by simp;omega
     clear hh
    case' inr=>
     have q1:decide (yh<1)=false:=by simp;omega
     have q2:decide ((1048576:Int)<yh)=true:=by simp;omega
     clear hh
    all_goals
     go_upto_region 8 with (fail)
     rw [<- hwq,<- hq];clear hwq hq;go_wp2;go_ret;exact ⟨by rw [HV.out];rfl,BQ.out⟩
   have q1:decide (yh<1)=false:=by simp;omega
   have q2:decide ((1048576:Int)<yh)=false:=by simp;omega
   have Jl:Hid (fA (dW l k) g ⟨yt,yh,yg,yk,yf,ya⟩=if bE yt=false then 17 else if yg<g then 5 else jZ (dW l k) ya):=by show _=_;unfold fA;rw [if_neg hh]
   have VC:=hid (fB yt wq (by have:=Md.out.t;dsimp only at this;omega));clear hh;cases hvv:bE yt with
   | false=>
    rw [hvv] at VC;have HV:Hid (V=17):=by show V=17;have h:=aT.out;rw [aX,Jl.out,if_pos hvv] at h;rw [<- h];rfl
    clear hvv;go_upto_region 8 with (fail)
    rw [<- hwq,<- hq];clear hwq hq;go_wp2_with fail
    refine VC.out.mono ?_;rintro e w3 ⟨rfl,qn,rfl⟩;go_wp2;go_ret;exact ⟨by rw [HV.out];rfl,q01 BQ.out _⟩
   | true=>
   rw [hvv] at VC;have Jm:Hid (fA (dW l k) g ⟨yt,yh,yg,yk,yf,ya⟩=if yg<g then 5 else jZ (dW l k) ya):=by show _=_;rw [Jl.out,if_neg (by rw [hvv];decide)]
   clear hvv Jl;by_cases hg:yg<g
   ·have q3:decide (yg<g)=true:=by simpa using hg
    have HV:Hid (V=5):=by show V=5;have h:=aT.out;rw [aX,Jm.out,if_pos hg] at h;rw [<- h];rfl
    clear hg;go_upto_region 8 with (fail)
    rw [<- hwq,<- hq];clear hwq hq;go_wp2_with fail
    refine VC.out.mono ?_;rintro e w3 ⟨rfl,qn,rfl⟩;have d2:=(CB.dN KQ.out qn).cell 2 _ rfl;go_wp2;go_ret;exact ⟨by rw [HV.out];rfl,q01 BQ.out _⟩
   have q3:decide (yg<g)=false:=by simpa using hg
   have hh3:Hid (fA (dW l k) g ⟨yt,yh,yg,yk,yf,ya⟩=jZ (dW l k) ya):=by show _=_;rw [Jm.out,if_neg hg]
   clear hg Jm;go_upto_region 8 with (fail)
   rw [<- hwq,<- hq];clear hwq hq;go_wp2_with fail
   refine VC.out.mono ?_;rintro e w3 ⟨rfl,qn,rfl⟩;have d2:=(CB.dN KQ.out qn).cell 2 _ rfl;have d5:=(CB.dN KQ.out qn).cell 5 _ rfl;obtain ⟨w3,hw3⟩:∃ w3,w3=wq.drewN qn:=⟨_,rfl⟩;have B3:Hid (Below w.heap.size w w3):=by rw [hw3];exact q01 BQ.out _
   have S3:Hid (aU w3 mb (dW l k).length (dW l k).reverse):=by rw [hw3];exact SQ.out
   rw [<- hw3] at d2 d5 ⊢;obtain ⟨E1,hE1⟩:∃ E1,E1=jZ (dW l k) ya:=⟨_,rfl⟩;have R1:Hid (G7 w mb (dW l k) ya E1 (.int .i64 0) w3):=⟨0,X8 _,rfl,by simpa using S3.out,B3.out,by rw [hE1];simp⟩;rw [<- hE1] at hh3;clear hw3 hE1 d0 d1 VC SQ BQ KQ S3 c0 c1 c2 c3 c4 c5;go_wp2
   go_loopw [40] (fun vi wr=>G7 w mb (dW l k) ya E1 vi wr) (fun vi _=>na-(intOf vi).toNat)
   case atStart=>exact R1.out
   case round=>
    clear R1 d2 d5;obtain ⟨j,hj,rfl,hset,hbel,aG⟩:=hrel;by_cases hjt:j<na
    ·obtain ⟨x,hx⟩:∃ x,ya[j]?=some x:=⟨_,XR (by have:=tq.out;omega)⟩;obtain ⟨b2,off2,rfl,-,-,f0⟩:=kF Jj.out hx;have f0:wr.cell? ⟨b2,off2+j,none⟩=some (.string x):=by rw [hbel.cell (p:=⟨b2,off2+j,none⟩) (fJ f0)];exact f0
     have hxs:=Md.out.a x (X9 hx);have CN:=hid (fun w=>dM x w (by omega));have hlk:=hset.look x (by unfold maxLen;omega);obtain ⟨w',hup,hS',hgr⟩:=hset.put x (by unfold maxLen;omega) (by have:=Jk.out;have:=HN.out;unfold maxLen;omega);rw [fU] at hlk;have xD:Hid (dW l k++ya.take (j+1)=dW l k++ya.take j++[x]):=by show _=_;rw [Yg,hx];simp
     rw [BS ya j x hx,jZ] at aG;have dR:=hid aG;have mX:=hid hbel;have Me:=hid hS';have uh:=hid (hbel.grown hgr hbel.size (fun j hj=>by cases hj;rw [U7.out];exact Nat.le_refl _));clear aG hS' hgr hset hbel hx;cases hn:iA x with
     | false=>
      rw [hn] at CN;have HV:Hid (V=6):=by show V=6;have h:=dR.out;rw [if_pos hn] at h;have h2:=aT.out;rw [aX,hh3.out,<- h] at h2;exact h2.symm
      clear hn hup hlk;go_wp2_with fail
      refine (CN.out _).mono ?_;rintro e w5 ⟨rfl,rfl⟩;go_wp2;go_ret;exact ⟨by rw [HV.out];rfl,mX.out⟩
     | true=>
      rw [hn] at CN;cases hb:hasB (dW l k++ya.take j) x with
      | true=>
       rw [hb] at hlk;have HV:Hid (V=7):=by show V=7;have h:=dR.out;rw [if_neg (by rw [hn];decide),if_pos hb] at h;have h2:=aT.out;rw [aX,hh3.out,<- h] at h2;exact h2.symm
       clear hn hb hup;go_wp2_with fail
       refine (CN.out _).mono ?_;rintro e w5 ⟨rfl,rfl⟩;go_wp2;go_ret;exact ⟨by rw [HV.out];rfl,mX.out⟩
      | false=>
       rw [hb] at hlk;have FD:Hid (jZ (dW l k++ya.take (j+1)) (ya.drop (j+1))=E1):=by show _=_;have h:=dR.out;rw [if_neg (by rw [hn];decide),if_neg (by rw [hb];decide)] at h;rw [xD.out];exact h
       clear hn hb;go_wp2_with fail
       refine (CN.out _).mono ?_;rintro e w5 ⟨rfl,rfl⟩;go_wp2;go_roundw;case rel=>exact ⟨j+1,by have:=tq.out;omega,by go_num,by rw [xD.out,List.reverse_append];exact Me.out,uh.out,FD.out⟩
       case measure=>simp [intOf];omega
    ·have hjn:j=ya.length:=by have:=tq.out;omega
     rw [hjn,Yi,List.drop_length,jZ] at aG;rw [hjn,Yi,<- XZ] at hset;have U8:j=na:=by have:=tq.out;omega
     have Me:Hid (aU wr mb (dW l (k+1)).length (dW l (k+1)).reverse):=by rw [Cx.out];exact hset
     have uh:=hid hbel;have Qm:Hid (aX (dW l (k+1)) yg (l.drop (k+1))=V):=by show _=_;have h2:=aT.out;rw [aX,hh3.out,<- aG] at h2;rw [Cx.out];simpa using h2
     clear aG hset hbel hjn;go_wp2;go_roundw;case rel=>exact ⟨k+1,yg,by have:=HN.out;omega,by go_num,rfl,Me.out,uh.out,Qm.out⟩
     case measure=>simp [intOf];omega
  ·have hkn:k=n:=by have:=HN.out;omega
   have hkl:k=l.length:=by have:=HN.out;omega
   rw [hkl,List.drop_length,aX] at aG;have HV:Hid (V=0):=aG.symm;have uh:=hid hbel;clear aG hset hbel hkl;go_wp2;go_ret;exact ⟨by rw [HV.out];rfl,uh.out⟩
open Go.RowKit
def G8 (w:World) (l:List Bx) (V:Nat) (vs vg vi:Value) (wr:World):Prop:=
 ∃ (k:Nat) (g:Int),k<=l.length/\vi=.int .i64 k/\vg=.int .i64 g/\wr.ownsRow w.heap.size 9 1 vs (dW l k).length ((dW l k).map Value.string)/\Below w.heap.size w wr/\aX (dW l k) g (l.drop k)=V
def G9 (w:World) (seen cls:List ByteArray) (E:Nat) (vs vi:Value) (wr:World):Prop:=
 ∃ j:Nat,j<=cls.length/\vi=.int .i64 j/\wr.ownsRow w.heap.size 9 1 vs (seen++cls.take j).length ((seen++cls.take j).map Value.string)/\Below w.heap.size w wr/\jZ (seen++cls.take j) (cls.drop j)=E
theorem rP (l:List Bx) (v:Value) (w:World) (h:Rd (·<w.heap.size) w (.sl 6 (l.map Bx.d)) [v]) (hf:∀ x∈l,x.fine) : Calls Tryz.prog 9 #[v] w (dA (.int .i64 (cO l:Nat)) w):=by
 obtain ⟨iS,Mf,hz0,hz1,hz2⟩:=info_parts nL;obtain ⟨a,c,hv,hs⟩:=Rd.aC h;obtain ⟨n,hn⟩:∃ n,n=l.length:=⟨_,rfl⟩;obtain rfl:v=.slice a n c:=by rw [hn];simpa using hv
 have hcap:n<=c:=by have:=hs.le;rw [X0] at this;omega
 have hmx:=hs.max;unfold maxLen at hmx;have HE:Hid (cO l=if 4096<n then 3 else aX [] 0 l):=by rw [hn];rfl
 obtain ⟨V,hV⟩:∃ V,V=cO l:=⟨_,rfl⟩;rw [<- hV] at HE ⊢;have HN:=hid hn;have HSL:=hid hs;have HF:=hid hf;clear h hv hn hs hf hV;by_cases hbig:4096<n
 ·have q1:decide ((4096:Int)<(n:Int))=true:=by simp;omega
  have HV:Hid (V=3):=by show V=3;rw [HE.out,if_pos hbig]
  clear hbig HE;go_enter Tryz.func9,Tryz.ntmps9;go_wp2;go_ret;exact ⟨by rw [HV.out];rfl,XT _ _⟩
 have q1:decide ((4096:Int)<(n:Int))=false:=by simp;omega
 have zq:Hid (V=aX [] 0 l):=by show V=_;rw [HE.out,if_neg hbig]
 have R0:Hid (G8 w l V (.slice none 0 0) (.int .i64 0) (.int .i64 0) w):=⟨0,0,X8 _,rfl,rfl,⟨rfl,.inl ⟨rfl,rfl⟩⟩,XT _ _,zq.out.symm⟩;clear HE zq;go_enter Tryz.func9,Tryz.ntmps9;go_wp2;clear q1
 go_loopw [3,4,14] (fun vs vg vi wr=>G8 w l V vs vg vi wr) (fun _ _ vi _=>n-(intOf vi).toNat)
 case atStart=>exact R0.out
 case round=>
  clear R0;obtain ⟨k,g,hk,rfl,rfl,hset,hbel,aG⟩:=hrel;by_cases hlt:k<n
  ·obtain ⟨y,hy⟩:∃ y,l[k]?=some y:=⟨_,XR (by have:=HN.out;omega)⟩;have Jh:=HF.out y (X9 hy);rw [BS l k y hy] at aG;have Cu:=jJ hy;have Cv:=lH l HF.out k;obtain ⟨yt,yh,yg,yk,yf,ya⟩:=y;obtain ⟨b,off,va,rfl,-,hbl,⟨c0,c1,c2,c3,c4,c5⟩,hva⟩:=gM HSL.out hy;have e1:∀ j x,w.cell? ⟨b,j,none⟩=some x->wr.cell? ⟨b,j,none⟩=some x:=fun j x e=>by rw [hbel.cell (p:=⟨b,j,none⟩) (fJ e)];exact e
   have c0:=e1 _ _ c0;have c1:=e1 _ _ c1;have c2:=e1 _ _ c2;have c3:=e1 _ _ c3;have c4:=e1 _ _ c4;have c5:=e1 _ _ c5;obtain ⟨aa,ca,ug,hsa⟩:=Rd.aC hva;obtain ⟨na,hna⟩:∃ na,na=ya.length:=⟨_,rfl⟩;obtain rfl:va=.slice aa na ca:=by rw [hna];simpa using ug
   have hca:na<=ca:=by have:=hsa.le;rw [X0] at this;omega
   have Cw:=hsa.max;unfold maxLen at Cw;have Ji:na<=1000:=by have:=Jh.n;rw [hna];exact this
   obtain ⟨q,hq⟩:∃ q,q=wr.heap.size:=⟨_,rfl⟩;obtain ⟨wq,hwq⟩:∃ wq,wq=wr.alloc (.cells #[.string yt,.int .i64 yh,.int .i64 yg,.bool yk,.bool yf,.slice aa na ca] 37):=⟨_,rfl⟩;have kq:CB 37 q [.string yt,.int .i64 yh,.int .i64 yg,.bool yk,.bool yf,.slice aa na ca] wq:=by rw [hwq,hq];exact CB.new _ _ _
   have bq:Below wr.heap.size wr wq:=by rw [hwq];exact (XT _ _).alloc (Nat.le_refl _) _
   have SQ:=hid (Jo hset bq);have BQ:=hid (aL hbel bq);have KQ:=hid kq;have d0:=kq.cell 0 _ rfl;have d1:=kq.cell 1 _ rfl;have HY:=hid hy;have Md:=hid Jh;have Jj:=hid hsa;have tq:=hid hna;have aT:=hid aG;have Cx:=hid Cu;have Jk:=hid Cv;clear hset hbel hy Jh aG Cu Cv hva ug hsa hna kq bq hbl e1;by_cases hh:yh<1\/1048576<yh
   ·have HV:Hid (V=9):=by
     show V=9;have h:=aT.out;rw [aX,show fA (dW l k) g ⟨yt,yh,yg,yk,yf,ya⟩=9 from by unfold fA;rw [if_pos hh]] at h;rw [<- h];rfl
    rcases hh with hh | hh
    case' inl=>
     have q1:decide (yh<1)=true:=by simp;omega
     clear hh
    case' inr=>
     have q1:decide (yh<1)=false:=by simp;omega
     have q2:decide ((1048576:Int)<yh)=true:=by simp;omega
     clear hh
    all_goals
     go_upto_region 8 with (fail)
     rw [<- hwq,<- hq];clear hwq hq;go_wp2;go_ret;exact ⟨by rw [HV.out];rfl,BQ.out⟩
   have q1:decide (yh<1)=false:=by simp;omega
   have q2:decide ((1048576:Int)<yh)=false:=by simp;omega
   have Jl:Hid (fA (dW l k) g ⟨yt,yh,yg,yk,yf,ya⟩=if bE yt=false then 17 else if yg<g then 5 else jZ (dW l k) ya):=by show _=_;unfold fA;rw [if_neg hh]
   have VC:=hid (xE yt wq (by have:=Md.out.t;dsimp only at this;omega));clear hh;cases hvv:bE yt with
   | false=>
    rw [hvv] at VC;have HV:Hid (V=17):=by show V=17;have h:=aT.out;rw [aX,Jl.out,if_pos hvv] at h;rw [<- h];rfl
    clear hvv;go_upto_region 8 with (fail)
    rw [<- hwq,<- hq];clear hwq hq;go_wp2_with fail
    refine VC.out.mono ?_;rintro e w3 ⟨rfl,b3⟩;go_wp2;go_ret;exact ⟨by rw [HV.out];rfl,aL BQ.out b3⟩
   | true=>
   rw [hvv] at VC;have Jm:Hid (fA (dW l k) g ⟨yt,yh,yg,yk,yf,ya⟩=if yg<g then 5 else jZ (dW l k) ya):=by show _=_;rw [Jl.out,if_neg (by rw [hvv];decide)]
   clear hvv Jl;by_cases hg:yg<g
   ·have q3:decide (yg<g)=true:=by simpa using hg
    have HV:Hid (V=5):=by show V=5;have h:=aT.out;rw [aX,Jm.out,if_pos hg] at h;rw [<- h];rfl
    clear hg;go_upto_region 8 with (fail)
    rw [<- hwq,<- hq];clear hwq hq;go_wp2_with fail
    refine VC.out.mono ?_;rintro e w3 ⟨rfl,b3⟩;have d2:=(KQ.out.below b3).cell 2 _ rfl;go_wp2;go_ret;exact ⟨by rw [HV.out];rfl,aL BQ.out b3⟩
   have q3:decide (yg<g)=false:=by simpa using hg
   have hh3:Hid (fA (dW l k) g ⟨yt,yh,yg,yk,yf,ya⟩=jZ (dW l k) ya):=by show _=_;rw [Jm.out,if_neg hg]
   clear hg Jm;go_upto_region 8 with (fail)
   rw [<- hwq,<- hq];clear hwq hq;go_wp2_with fail
   refine VC.out.mono ?_;rintro e w3 ⟨rfl,b3⟩;have d2:=(KQ.out.below b3).cell 2 _ rfl;have d5:=(KQ.out.below b3).cell 5 _ rfl;have B3:=hid (aL BQ.out b3);have S3:=hid (Jo SQ.out b3);obtain ⟨E1,hE1⟩:∃ E1,E1=jZ (dW l k) ya:=⟨_,rfl⟩;have R1:Hid (G9 w (dW l k) ya E1 _ (.int .i64 0) w3):=⟨0,X8 _,rfl,by simpa using S3.out,B3.out,by rw [hE1];simp⟩;rw [<- hE1] at hh3;clear b3 hE1 d0 d1 VC SQ BQ KQ S3 c0 c1 c2 c3 c4 c5;go_wp2
   go_loopw [3,39] (fun vs vi wr=>G9 w (dW l k) ya E1 vs vi wr) (fun _ vi _=>na-(intOf vi).toNat)
   case atStart=>exact R1.out
   case round=>
    clear R1 d2 d5;obtain ⟨j,hj,rfl,hset,hbel,aG⟩:=hrel;by_cases hjt:j<na
    ·obtain ⟨x,hx⟩:∃ x,ya[j]?=some x:=⟨_,XR (by have:=tq.out;omega)⟩;obtain ⟨b2,off2,rfl,-,-,f0⟩:=kF Jj.out hx;have f0:wr.cell? ⟨b2,off2+j,none⟩=some (.string x):=by rw [hbel.cell (p:=⟨b2,off2+j,none⟩) (fJ f0)];exact f0
     have hxs:=Md.out.a x (X9 hx);have CN:=hid (fun w=>Am x w (by omega));have hol:(dW l k++ya.take j).length<=5000000:=by rw [XZ,List.length_take];have:=Jk.out;have:=HN.out;omega
     have xD:Hid (dW l k++ya.take (j+1)=dW l k++ya.take j++[x]):=by show _=_;rw [Yg,hx];simp
     rw [BS ya j x hx,jZ] at aG;obtain ⟨SE,Sj⟩:∃ SE,SE=dW l k++ya.take j:=⟨_,rfl⟩;rw [<- Sj] at hset hol xD aG;have RH:=hid (Cy SE x _ _ (jH.lI hset));have HO:=hid hset;clear Sj;have dR:=hid aG;have mX:=hid hbel;clear aG hset hbel hx;cases hn:iA x with
     | false=>
      rw [hn] at CN;have HV:Hid (V=6):=by show V=6;have h:=dR.out;rw [if_pos hn] at h;have h2:=aT.out;rw [aX,hh3.out,<- h] at h2;exact h2.symm
      clear hn;go_wp2_with fail
      refine (CN.out _).mono ?_;rintro e w5 ⟨rfl,rfl⟩;go_wp2;go_ret;exact ⟨by rw [HV.out];rfl,mX.out⟩
     | true=>
      rw [hn] at CN;cases hb:hasB SE x with
      | true=>
       rw [hb] at RH;have HV:Hid (V=7):=by show V=7;have h:=dR.out;rw [if_neg (by rw [hn];decide),if_pos hb] at h;have h2:=aT.out;rw [aX,hh3.out,<- h] at h2;exact h2.symm
       clear hn hb;go_wp2_with fail
       refine (CN.out _).mono ?_;rintro e w5 ⟨rfl,rfl⟩;go_wp2_with fail
       refine RH.out.mono ?_;rintro e w5 ⟨rfl,rfl⟩;go_wp2;go_ret;exact ⟨by rw [HV.out];rfl,mX.out⟩
      | false=>
       rw [hb] at RH;have FD:Hid (jZ (dW l k++ya.take (j+1)) (ya.drop (j+1))=E1):=by show _=_;have h:=dR.out;rw [if_neg (by rw [hn];decide),if_neg (by rw [hb];decide)] at h;rw [xD.out];exact h
       clear hn hb;go_wp2_with fail
       refine (CN.out _).mono ?_;rintro e w5 ⟨rfl,rfl⟩;go_wp2_with fail
       refine RH.out.mono ?_;rintro e w5 ⟨rfl,rfl⟩;go_wp2_with (at_builtin;refine wpList_append_own _ rfl _ _ 35 rfl w.heap.size 9 iS (.string ByteArray.empty) 1 16 Tryz.underlying35 Mf hz0 hz1 hz2 rfl (by decide) _ _ _ rfl (HO.out.alloc _) ⟨_,0,none⟩ 1 1 [.string x] rfl rfl ?c1 ?c2 ?c3 ?c4 ?c5 ?_)
       case c1=>exact kD _ _ _
       case c2=>intro u hu;simp at hu;subst hu;rfl
       case c3=>unfold maxLen;omega
       case c4=>omega
       case c5=>have:=mX.out.size;simp;omega
       intro v' w6 hown' hgrow _;have b6:Below w.heap.size w w6:=below_app mX.out mX.out.size HO.out hgrow;have Qd:=hid hown';clear hown' hgrow;go_wp2;go_roundw;case rel=>
        refine ⟨j+1,by have:=tq.out;omega,by go_num,?_,b6,FD.out⟩;rw [xD.out,XZ,List.map_append];exact Qd.out
       case measure=>simp [intOf];omega
    ·have hjn:j=ya.length:=by have:=tq.out;omega
     rw [hjn,Yi,List.drop_length,jZ] at aG;rw [hjn,Yi] at hset;have U8:j=na:=by have:=tq.out;omega
     have Mg:dW l (k+1)=dW l k++ya:=Cx.out;rw [<- Mg] at hset;have Me:=hid hset;have uh:=hid hbel;have Qm:Hid (aX (dW l (k+1)) yg (l.drop (k+1))=V):=by show _=_;have h2:=aT.out;rw [aX,hh3.out,<- aG] at h2;rw [Cx.out];simpa using h2
     clear aG hset hbel hjn;go_wp2;go_roundw;case rel=>exact ⟨k+1,yg,by have:=HN.out;omega,by go_num,rfl,Me.out,uh.out,Qm.out⟩
     case measure=>simp [intOf];omega
  ·have hkn:k=n:=by have:=HN.out;omega
   have hkl:k=l.length:=by have:=HN.out;omega
   rw [hkl,List.drop_length,aX] at aG;have HV:Hid (V=0):=aG.symm;have uh:=hid hbel;clear aG hset hbel hkl;go_wp2;go_ret;exact ⟨by rw [HV.out];rfl,uh.out⟩
end Go.Proofs.YtnmldmofggkoeaaGreatDoor

