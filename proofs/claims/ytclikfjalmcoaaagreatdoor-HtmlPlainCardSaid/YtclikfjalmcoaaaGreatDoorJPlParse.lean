/- Plain part: attributes in braces, read off a list of bytes; what is read does not depend on what stands behind the closing brace. -/
import Derived.Test.YtclikfjalmcoaaaGreatDoorJPlToc
namespace Go.Proofs.YtclikfjalmcoaaaGreatDoor
open List renaming cons_append->jd6
set_option linter.unusedVariables false
set_option linter.unusedSimpArgs false
def bK:List UInt8->List UInt8->Option (List UInt8 × List UInt8)
 | [],_=>none
 | c::l,acc=>
  if c=34 then some (acc,l)
  else if c=92 then (match l with
   | []=>none
   | d::l'=>if d=34\/d=92 then bK l' (acc++[d]) else none)
  else bK l (acc++[c])
def bX (l:List UInt8):ByteArray:=⟨l.toArray⟩
def dZ (l:List UInt8):Option (ByteArray × List UInt8):=
 if l.head?=some 34 then (match bK l.tail [] with
  | none=>none
  | some (v,r)=>if fP (bX v)=true then some (bX v,r) else none)
 else if iQ (bX (l.takeWhile gN))=true then some (bX (l.takeWhile gN),l.dropWhile gN) else none
def sD (l:List UInt8):List UInt8:=if l.head?=some 35\/l.head?=some 46 then l.tail else l
def keysOf (a:At):List ByteArray:=a.aH.map Pr.key
def cu (a:At) (l:List UInt8):Option (At × List UInt8):=
 if iQ (bX ((sD l).takeWhile gN))=false then none
 else if l.head?=some 35 then (if aW a.id=false then none else some (⟨bX ((sD l).takeWhile gN),a.cls,a.aH⟩,(sD l).dropWhile gN))
 else if l.head?=some 46 then (if hasB a.cls (bX ((sD l).takeWhile gN))=true then none else if 32<=a.cls.length then none
  else some (⟨a.id,a.cls++[bX ((sD l).takeWhile gN)],a.aH⟩,(sD l).dropWhile gN))
 else if ((sD l).dropWhile gN).head?=some 61 then (match dZ ((sD l).dropWhile gN).tail with
  | none=>none
  | some (v,r)=>if hasB (keysOf a) (bX ((sD l).takeWhile gN))=true then none else if 32<=a.aH.length then none
   else some (⟨a.id,a.cls,a.aH++[⟨bX ((sD l).takeWhile gN),v⟩]⟩,r))
 else none
def isSp (c:UInt8):Bool:=decide (c=32)
def gT (l:List UInt8):List UInt8:=l.dropWhile isSp
def wR:Nat->At->Bool->List UInt8->Option (At × List UInt8)
 | 0,_,_,_=>none
 | f+1,a,sep,l=>
  if l.head?=some 125 then some (a,l.tail)
  else if l=[]\/sep=false then none
  else (match cu a l with
   | none=>none
   | some (a',l')=>wR f a' (decide (l'.head?=some 32)) (gT l'))
def Aq (l:List UInt8):Option (At × List UInt8):=
 if l.head?=some 123 then wR l.length ⟨bX [],[],[]⟩ true (gT l.tail) else none
theorem vQ (p:UInt8->Bool):∀ (n r:List UInt8),(∀ c∈n,p c=true)->(∀ c,r.head?=some c->p c=false)->(n++r).takeWhile p=n/\(n++r).dropWhile p=r
 | [],r,_,h2=>by
  cases r with
  | nil=>exact ⟨rfl,rfl⟩
  | cons c r=>exact ⟨by simp [h2 c rfl],by simp [h2 c rfl]⟩
 | c::n,r,h1,h2=>by
  have hc:=h1 c (by simp);obtain ⟨k1,k2⟩:=vQ p n r (fun x hx=>h1 x (by simp [hx])) h2;rw [jd6,List.takeWhile_cons,List.dropWhile_cons,hc];simp [k1,k2]
theorem fI (p:UInt8->Bool) (l:List UInt8):(∀ c∈l.takeWhile p,p c=true)/\(∀ c,(l.dropWhile p).head?=some c->p c=false):=by
 induction l with
 | nil=>simp
 | cons x l ih=>
  rw [List.takeWhile_cons,List.dropWhile_cons];cases h:p x with
  | true=>
   refine ⟨fun c hc=>?_,fun c hc=>ih.2 c (by simpa using hc)⟩;simp at hc;rcases hc with rfl | hc
   ·exact h
   ·exact ih.1 c hc
  | false=>exact ⟨by simp,fun c hc=>by simp at hc;rw [<- hc];exact h⟩
theorem tO (p:UInt8->Bool) (l r':List UInt8) (h:r'.head?=(l.dropWhile p).head?):(l.takeWhile p++r').takeWhile p=l.takeWhile p/\(l.takeWhile p++r').dropWhile p=r':=
 vQ p _ _ (fI p l).1 (fun c hc=>(fI p l).2 c (by rw [<- h];exact hc))
theorem oI:∀ (n:Nat) (l acc v r:List UInt8),l.length<=n->bK l acc=some (v,r)->∃ p,l=p++r/\p≠[]/\∀ r',bK (p++r') acc=some (v,r')
 | n,[],acc,v,r,_,h=>by rw [bK] at h;cases h
 | 0,c::l,acc,v,r,hn,h=>by simp at hn
 | n+1,c::l,acc,v,r,hn,h=>by
  simp only [List.length_cons] at hn;rw [bK.eq_def] at h;simp only at h;by_cases h1:c=34
  ·rw [if_pos h1] at h;injection h with h
   injection h with h2 h3
   subst h2 h3;exact ⟨[c],rfl,by simp,fun r'=>by rw [List.singleton_append,bK.eq_def];simp only;rw [if_pos h1]⟩
  ·rw [if_neg h1] at h;by_cases h2:c=92
   ·rw [if_pos h2] at h;cases l with
    | nil=>cases h
    | cons d l'=>
     simp only at h;by_cases h3:d=34\/d=92
     ·rw [if_pos h3] at h;obtain ⟨p,e1,e2,e3⟩:=oI n l' (acc++[d]) v r (by simp at hn;omega) h;refine ⟨c::d::p,by rw [e1];rfl,by simp,fun r'=>?_⟩;rw [jd6,jd6,bK.eq_def];simp only;rw [if_neg h1,if_pos h2,if_pos h3];exact e3 r'
     ·rw [if_neg h3] at h;cases h
   ·rw [if_neg h2] at h;obtain ⟨p,e1,e2,e3⟩:=oI n l (acc++[c]) v r (by omega) h;refine ⟨c::p,by rw [e1];rfl,by simp,fun r'=>?_⟩;rw [jd6,bK.eq_def];simp only;rw [if_neg h1,if_neg h2];exact e3 r'
theorem nu (l:List UInt8) (h:iQ (bX l)=true):l≠[]:=by rintro rfl;revert h;decide
theorem Fx (l r:List UInt8) (v:ByteArray) (h:dZ l=some (v,r)):∃ p,l=p++r/\p≠[]/\∀ r',r'.head?=r.head?->dZ (p++r')=some (v,r'):=by
 unfold dZ at h;by_cases h1:l.head?=some 34
 ·rw [if_pos h1] at h;cases l with
  | nil=>simp at h1
  | cons c l=>
   obtain rfl:c=34:=by simpa using h1
   rw [List.tail_cons] at h;cases hq:bK l [] with
   | none=>rw [hq] at h;cases h
   | some z=>
    obtain ⟨v1,r1⟩:=z;rw [hq] at h;simp only at h;by_cases h2:fP (bX v1)=true
    ·rw [if_pos h2] at h;injection h with h
     injection h with h3 h4
     subst h3 h4;obtain ⟨p,e1,e2,e3⟩:=oI _ l [] v1 r1 (Nat.le_refl _) hq;refine ⟨34::p,by rw [e1];rfl,by simp,fun r' _=>?_⟩;unfold dZ;rw [jd6,List.head?_cons,if_pos rfl,List.tail_cons,e3 r'];simp only;rw [if_pos h2]
    ·rw [if_neg h2] at h;cases h
 ·rw [if_neg h1] at h;by_cases h2:iQ (bX (l.takeWhile gN))=true
  ·rw [if_pos h2] at h;injection h with h
   injection h with h3 h4
   subst h3 h4;refine ⟨l.takeWhile gN,(List.takeWhile_append_dropWhile).symm,nu _ h2,fun r' hr=>?_⟩;obtain ⟨k1,k2⟩:=tO gN l r' hr;unfold dZ;have hh:(l.takeWhile gN++r').head?=l.head?:=by
    cases l with
    | nil=>exact absurd rfl (nu _ h2)
    | cons c l=>
     have hne:=nu _ h2;rw [List.takeWhile_cons] at hne ⊢;cases hc:gN c with
     | true=>simp
     | false=>rw [hc] at hne;simp at hne
   rw [hh,if_neg h1,k1,k2,if_pos h2]
  ·rw [if_neg h2] at h;cases h
theorem mE (p r r':List UInt8) (h:p≠[]):(p++r).head?=(p++r').head?:=by
 cases p with
 | nil=>exact absurd rfl h
 | cons c p=>rfl
theorem yQ (a a':At) (l r:List UInt8) (h:cu a l=some (a',r)):∃ p,l=p++r/\p≠[]/\∀ r',r'.head?=r.head?->cu a (p++r')=some (a',r'):=by
 unfold cu at h;by_cases h1:iQ (bX ((sD l).takeWhile gN))=false
 ·rw [if_pos h1] at h;cases h
 rw [if_neg h1] at h;have h1':iQ (bX ((sD l).takeWhile gN))=true:=by simpa using h1
 have hN:=nu _ h1';by_cases h2:l.head?=some 35
 ·rw [if_pos h2] at h;by_cases h3:aW a.id=false
  ·rw [if_pos h3] at h;cases h
  rw [if_neg h3] at h;injection h with h
  injection h with e1 e2
  cases l with
  | nil=>simp at h2
  | cons c l=>
   obtain rfl:c=35:=by simpa using h2
   have hA:∀ x,sD (35::x)=x:=fun x=>by simp [sD]
   rw [hA] at e1 e2 h1 hN;refine ⟨35::l.takeWhile gN,?_,by simp,fun r' hr=>?_⟩
   ·rw [<- e2,jd6,List.takeWhile_append_dropWhile]
   ·obtain ⟨k1,k2⟩:=tO gN l r' (by rw [hr,e2]);unfold cu;rw [jd6,hA,k1,k2,if_neg h1,List.head?_cons,if_pos rfl,if_neg h3,e1]
 rw [if_neg h2] at h;by_cases h3:l.head?=some 46
 ·rw [if_pos h3] at h;by_cases h4:hasB a.cls (bX ((sD l).takeWhile gN))=true
  ·rw [if_pos h4] at h;cases h
  rw [if_neg h4] at h;by_cases h5:32<=a.cls.length
  ·rw [if_pos h5] at h;cases h
  rw [if_neg h5] at h;injection h with h
  injection h with e1 e2
  cases l with
  | nil=>simp at h3
  | cons c l=>
   obtain rfl:c=46:=by simpa using h3
   have hA:∀ x,sD (46::x)=x:=fun x=>by simp [sD]
   rw [hA] at e1 e2 h1 hN h4;refine ⟨46::l.takeWhile gN,?_,by simp,fun r' hr=>?_⟩
   ·rw [<- e2,jd6,List.takeWhile_append_dropWhile]
   ·obtain ⟨k1,k2⟩:=tO gN l r' (by rw [hr,e2]);unfold cu;rw [jd6,hA,k1,k2,if_neg h1,List.head?_cons,if_neg (by decide),if_pos rfl,if_neg h4,if_neg h5,e1]
 rw [if_neg h3] at h;have hA:sD l=l:=by unfold sD;rw [if_neg (by rintro (h | h);exact h2 h;exact h3 h)]
 rw [hA] at h h1 hN;by_cases h4:(l.dropWhile gN).head?=some 61
 ·rw [if_pos h4] at h;cases hv:dZ (l.dropWhile gN).tail with
  | none=>rw [hv] at h;cases h
  | some z=>
   obtain ⟨v,r1⟩:=z;rw [hv] at h;simp only at h;by_cases h5:hasB (keysOf a) (bX (l.takeWhile gN))=true
   ·rw [if_pos h5] at h;cases h
   rw [if_neg h5] at h;by_cases h6:32<=a.aH.length
   ·rw [if_pos h6] at h;cases h
   rw [if_neg h6] at h;injection h with h
   injection h with e1 e2
   subst e2;obtain ⟨p1,q1,q2,q3⟩:=Fx _ _ _ hv;have hD:l.dropWhile gN=61::(l.dropWhile gN).tail:=by
    cases hd:l.dropWhile gN with
    | nil=>rw [hd] at h4;simp at h4
    | cons c m=>
     rw [hd] at h4;obtain rfl:c=61:=by simpa using h4
     rfl
   refine ⟨l.takeWhile gN++61::p1,?_,by simp,fun r' hr=>?_⟩
   ·rw [List.append_assoc,jd6,<- q1,<- hD,List.takeWhile_append_dropWhile]
   ·have hrr:(l.takeWhile gN++61::p1)++r'=l.takeWhile gN++(61::(p1++r')):=by simp
    obtain ⟨k1,k2⟩:=tO gN l (61::(p1++r')) (by rw [h4];rfl);have hh:(l.takeWhile gN++(61::(p1++r'))).head?=l.head?:=by
     conv=>rhs;rw [<- List.takeWhile_append_dropWhile (p:=gN) (l:=l)]
     exact mE _ _ _ hN
    have hA':sD (l.takeWhile gN++(61::(p1++r')))=l.takeWhile gN++(61::(p1++r')):=by unfold sD;rw [hh,if_neg (by rintro (h | h);exact h2 h;exact h3 h)]
    unfold cu;rw [hrr,hA',k1,k2,hh,if_neg h1,if_neg h2,if_neg h3,List.head?_cons,if_pos rfl,List.tail_cons,q3 r' hr];simp only;rw [if_neg h5,if_neg h6,e1]
 ·rw [if_neg h4] at h;cases h
theorem vR:∀ (f:Nat) (a a':At) (sep:Bool) (l r:List UInt8),wR f a sep l=some (a',r) -> ∃ p,l=p++125::r/\∀ r' f',p.length+r'.length+1<=f'->wR f' a sep (p++125::r')=some (a',r')
 | 0,a,a',sep,l,r,h=>by rw [wR] at h;cases h
 | f+1,a,a',sep,l,r,h=>by
  rw [wR] at h;by_cases h1:l.head?=some 125
  ·rw [if_pos h1] at h;injection h with h
   injection h with e1 e2
   subst e1 e2;cases l with
   | nil=>simp at h1
   | cons c l=>
    obtain rfl:c=125:=by simpa using h1
    refine ⟨[],rfl,fun r' f' hf=>?_⟩;obtain ⟨g,rfl⟩:∃ g,f'=g+1:=⟨f'-1,by omega⟩;rw [wR,List.nil_append,List.head?_cons,if_pos rfl];rfl
  rw [if_neg h1] at h;by_cases h2:l=[]\/sep=false
  ·rw [if_pos h2] at h;cases h
  rw [if_neg h2] at h;cases hi:cu a l with
  | none=>rw [hi] at h;cases h
  | some z=>
   obtain ⟨a1,l1⟩:=z;rw [hi] at h;simp only at h;obtain ⟨p1,q1,q2,q3⟩:=yQ _ _ _ _ hi;obtain ⟨p2,k1,k2⟩:=vR f a1 a' _ _ r h;have hl1:l1=l1.takeWhile isSp++(p2++125::r):=by rw [<- k1];exact (List.takeWhile_append_dropWhile).symm
   have hh:∀ r',(l1.takeWhile isSp++(p2++125::r')).head?=l1.head?:=fun r'=>by
    conv=>rhs;rw [hl1]
    have e:∀ x,l1.takeWhile isSp++(p2++125::x)=(l1.takeWhile isSp++p2++[125])++x:=fun x=>by simp
    rw [e,e];exact mE _ _ _ (by simp)
   have hs:∀ r',gT (l1.takeWhile isSp++(p2++125::r'))=p2++125::r':=fun r'=>by
    refine (vQ isSp _ _ (fI isSp l1).1 (fun c hc=>(fI isSp l1).2 c ?_)).2;rw [<- hc];show (gT l1).head?=_;rw [k1];have e:∀ x,p2++125::x=(p2++[125])++x:=fun x=>by simp
    rw [e r',e r];exact mE _ _ _ (by simp)
   refine ⟨p1++l1.takeWhile isSp++p2,?_,fun r' f' hf=>?_⟩
   ·rw [q1,List.append_assoc,List.append_assoc,<- hl1]
   ·obtain ⟨g,rfl⟩:∃ g,f'=g+1:=⟨f'-1,by omega⟩;have hp1:0<p1.length:=List.length_pos_iff.2 q2;have e:p1++l1.takeWhile isSp++p2++125::r'=p1++(l1.takeWhile isSp++(p2++125::r')):=by simp
    have hh2:(p1++(l1.takeWhile isSp++(p2++125::r'))).head?=l.head?:=by rw [q1];exact mE _ _ _ q2
    rw [e,wR,hh2,if_neg h1,if_neg,q3 _ (hh r')]
    ·simp only;rw [hh r',hs r'];refine k2 r' g ?_;simp only [List.length_append] at hf;omega
    ·rintro (h3 | h3)
     ·simp at h3
     ·exact h2 (.inr h3)
def fq (l:List UInt8):List UInt8:=(l.reverse.dropWhile isSp).reverse
theorem yR (p r:List UInt8) (hr:∀ c∈r,isSp c=true) (hp:∀ c,p.getLast?=some c->isSp c=false):fq (p++r)=p:=by unfold fq;rw [List.reverse_append,(vQ isSp r.reverse p.reverse (fun c hc=>hr c (by simpa using hc)) (fun c hc=>hp c (by simpa using hc))).2,List.reverse_reverse]
theorem mF (l:List UInt8):∃ r,l=fq l++r/\∀ c∈r,isSp c=true:=by refine ⟨(l.reverse.takeWhile isSp).reverse,?_,fun c hc=>(fI isSp l.reverse).1 c (by simpa using hc)⟩;unfold fq;rw [<- List.reverse_append,List.takeWhile_append_dropWhile,List.reverse_reverse]
theorem vS (l r:List UInt8) (a:At) (h:Aq l=some (a,r)):∃ p,l=p++125::r/\∀ r',Aq (p++125::r')=some (a,r'):=by
 unfold Aq at h;by_cases h1:l.head?=some 123
 ·rw [if_pos h1] at h;cases l with
  | nil=>simp at h1
  | cons c l=>
   obtain rfl:c=123:=by simpa using h1
   rw [List.tail_cons] at h;obtain ⟨p2,k1,k2⟩:=vR _ _ _ _ _ _ h;have hl:l=l.takeWhile isSp++(p2++125::r):=by rw [<- k1];exact (List.takeWhile_append_dropWhile).symm
   have hs:∀ r',gT (l.takeWhile isSp++(p2++125::r'))=p2++125::r':=fun r'=>by
    refine (vQ isSp _ _ (fI isSp l).1 (fun c hc=>(fI isSp l).2 c ?_)).2;rw [<- hc];show (gT l).head?=_;rw [k1];have e:∀ x,p2++125::x=(p2++[125])++x:=fun x=>by simp
    rw [e r',e r];exact mE _ _ _ (by simp)
   refine ⟨123::(l.takeWhile isSp++p2),?_,fun r'=>?_⟩
   ·conv=>lhs;rw [hl]
    simp
   ·have e:123::(l.takeWhile isSp++p2)++125::r'=123::(l.takeWhile isSp++(p2++125::r')):=by simp
    unfold Aq;rw [e,List.head?_cons,if_pos rfl,List.tail_cons,hs r'];refine k2 r' _ ?_;simp;omega
 ·rw [if_neg h1] at h;cases h
def Fy (l:List UInt8):Bool:=match Aq l with
 | none=>false
 | some (_,r)=>r.all isSp
def Fz (l:List UInt8):Bool:=match Aq (fq l) with
 | none=>false
 | some (_,r)=>r.isEmpty
theorem xK (l:List UInt8):Fy l=Fz l:=by
 rw [Bool.eq_iff_iff];unfold Fy Fz;constructor
 ·intro h;cases hp:Aq l with
  | none=>rw [hp] at h;cases h
  | some z=>
   obtain ⟨a,r⟩:=z;rw [hp] at h;simp only at h;obtain ⟨p,e1,e2⟩:=vS _ _ _ hp;have ht:fq l=p++[125]:=by
    have e:l=(p++[125])++r:=by rw [e1];simp
    rw [e];refine yR _ _ (List.all_eq_true.1 h) (fun c hc=>?_);simp at hc;subst hc;decide
   rw [ht,e2 []];rfl
 ·intro h;cases hp:Aq (fq l) with
  | none=>rw [hp] at h;cases h
  | some z=>
   obtain ⟨a,r⟩:=z;rw [hp] at h;simp only at h;obtain rfl:r=[]:=by simpa using h
   obtain ⟨p,e1,e2⟩:=vS _ _ _ hp;obtain ⟨sp,k1,k2⟩:=mF l;have e:l=p++125::sp:=by rw [k1,e1];simp
   rw [e,e2 sp];exact List.all_eq_true.2 k2
def mG (l:List UInt8):Bool:=
 decide ((l.takeWhile isSp).length<=3)&&decide ((gT l).take 2=[36,36])&&((gT ((gT l).drop 2)).isEmpty||Fy (gT ((gT l).drop 2)))
def vT:List UInt8->List UInt8->List (List UInt8)
 | _,[]=>[]
 | acc,c::l=>if c=10 then acc::vT [] l else vT (acc++[c]) l
def qU (s:ByteArray):Bool:=(vT [] s.data.toList).any mG
end Go.Proofs.YtclikfjalmcoaaaGreatDoor

