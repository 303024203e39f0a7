/- Plain part: the errors of layer 4: what is not well-formed in inlines and blocks. Plain part: merged inlines: what Merge returns; it keeps the plain text, and changes nothing the second time, nor a line without errors. Plain part: groups of texts in Merge. Plain part: clean texts one after the other are clean. Plain part: entry lines, as the program and as the reference make them. Contracts of chars.width, second, unclean, Next, Valid; of attr.cleanLine, tree.cleanLine, trimmed, cleanText. Contracts of attr.cleanLine, tree.cleanLine, trimmed, cleanText, address' first test; attr.Empty. Plain part: attributes in braces, read off a list of bytes; what is read does not depend on what stands behind the closing brace. -/
import Derived.Test.YtkfnkeflalcphaaGreatDoorMSame
import Derived.Test.YtkfnkeflalcphaaGreatDoorMRowE
import Derived.Lib.RuneCount
set_option maxHeartbeats 4000000
set_option maxRecDepth 100000
open Go.Lib (hid)
namespace Go.Proofs.YtkfnkeflalcphaaGreatDoor
open Tryz
open Bool renaming eq_iff_iff->jKk
open List renaming cons_append->jL6
set_option linter.unusedVariables false
set_option linter.unusedSimpArgs false
def nN (p:Nat × Nat):Bool:=(decide (p.1=10)||(decide (32<=p.1)&&!decide (p.1=127)))&&!(decide (p.1=65533)&&decide (p.2=1))
def je (s:ByteArray):Bool:=(pts s).all nN
def wI (s:ByteArray):Bool:=s.data.toList.all fun c=>!decide (c=10)
def cZ (s:ByteArray):Bool:=je s&&wI s
def trimS (s:ByteArray):Bool:=decide (s.data.toList=[])||(!decide (s.data.toList.head?=some 32)&&!decide (s.data.toList.getLast?=some 32))
def nI (s:ByteArray) (bs:List UInt8):Bool:=s.data.toList.any fun c=>bs.contains c
def kL (p:Nat × Nat):Bool:=iV p.1||Ga p.1||[32,45,95,46,58].contains p.1
def vF (s:ByteArray):Bool:=decide (1<=s.size)&&decide (s.size<=60)&&decide (nU s=s)&&(pts s).all kL
def aV (s:ByteArray):Bool:=decide (s.data.toList=[])
def At.none (a:At):Bool:=aV a.id&&a.cls.isEmpty&&a.aD.isEmpty
def sN (seen:List ByteArray):List ByteArray->Nat
 | []=>0
 | c::l=>if dQ c=false then 6 else if dO seen c=true then 7 else sN (seen++[c]) l
def wJ (seen:List ByteArray):List Pr->Nat
 | []=>0
 | p::l=>if dQ p.key=false then 6 else if cZ p.val=false then 17 else if dO seen p.key=true then 7 else wJ (seen++[p.key]) l
def At.err (a:At):Nat:=
 if aV a.id=false/\dQ a.id=false then 6
 else if sN [] a.cls≠0 then sN [] a.cls
 else if wJ [] a.aD≠0 then wJ [] a.aD
 else if 32<a.cls.length\/32<a.aD.length then 3 else 0
mutual
def aj.Nk (ks:List Int):aj->Bool
 | .mk k _ _ _ _ _ _ kids=>ks.contains k||aj.cO ks kids
def aj.cO (ks:List Int):List aj->Bool
 | []=>false
 | x::l=>x.Nk ks||aj.cO ks l
end
def dh:List Int:=[9,16,12,14,13]
def bT:List Int:=[2,3]
def zL (k:Int) (t d ti:ByteArray) (a:At) (ar:List ByteArray) (ci:List Ci) (ks:List aj):Bool:=
 decide (1<=k)&&decide (k<=16)&&(([1,4,5,9,10,12,14,15]:List Int).contains k||aV t)&&(([9,10,16]:List Int).contains k||aV d)&&(([9,10,14]:List Int).contains k||aV ti) &&
 (([10,11]:List Int).contains k||a.none)&&(([6,7,8,9,10,11]:List Int).contains k||ks.isEmpty)&&(decide (k=15)||ar.isEmpty)&&(decide (k=13)||ci.isEmpty)
def gy (s:ByteArray):Nat:=(s.data.toList.takeWhile fun c=>dW c.toNat).length
def jS (s:ByteArray):Bool:=decide (2<=gy s)&&decide (gy s<=20)&&decide (s.data.toList[gy s]?=some 58)&&cZ s&&!nI s [32,60,62]
def iw (s:ByteArray):Bool:=!cZ s||!trimS s||nI s [91,93,59,64,123,36,96]
def eU:List Ci->Nat
 | []=>0
 | c::l=>if dQ c.key=false then 6 else if iw c.pre=true\/iw c.suf=true then 17 else eU l
def Uf (l:List Ci):Nat:=if l.isEmpty=true then 8 else eU l
def Tq (k:Int) (t d ti:ByteArray) (a:At) (ks:List aj):Nat:=
 if aV t=false/\(aV d=false\/aV ti=false) then 5
 else if aV t=false/\vF t=false then 6
 else if cZ d=false\/cZ ti=false then 17
 else if k=9/\aj.cO dh ks=true then 5
 else if k=10 then a.err else 0
def q2z (s:ByteArray):Bool:=!cZ s||nI s [124,123,125]
def nZ:List UInt8:=[112,97,103,101]
def Tn (k:Int) (t ti:ByteArray) (ar:List ByteArray):Nat:=
 if dQ t=false then 6
 else if k=14/\aV ti=false/\ti.data.toList≠nZ then 5
 else if 8<ar.length then 3
 else if ar.any q2z then 17 else 0
def og (before:Int) (first last:Bool) (k:Int) (t d ti:ByteArray) (a:At) (ar:List ByteArray) (ci:List Ci) (ks:List aj):Nat:=
 if zL k t d ti a ar ci ks=false then 5
 else if k=1\/k=4\/k=5 then (if aV t=true\/cZ t=false then 17 else if k≠5/\before=k then 5 else 0)
 else if k=2 then (if before=2\/before=3\/first=true\/last=true then 5 else 0)
 else if k=3 then (if last=true then 5 else 0)
 else if k=6\/k=7\/k=8 then (if ks.isEmpty=true then 8 else 0)
 else if k=9\/k=10 then Tq k t d ti a ks
 else if k=11 then (if a.none=true then 8 else a.err)
 else if k=12\/k=14\/k=15 then Tn k t ti ar
 else if k=13 then Uf ci
 else if jS d=true then 0 else 5
def aj.kd:aj->Int
 | .mk k _ _ _ _ _ _ _=>k
mutual
def aj.err (before:Int) (first last:Bool) (dp:Nat):aj->Nat
 | .mk k t d ti a ar ci ks=>if og before first last k t d ti a ar ci ks≠0 then og before first last k t d ti a ar ci ks else aj.aQ 0 true (dp+1) ks
def aj.aQ (before:Int) (st:Bool) (dp:Nat):List aj->Nat
 | []=>0
 | x::l=>if 15<dp then 11 else if x.err before (decide (dp=0)&&st) (decide (dp=0)&&l.isEmpty) dp≠0 then x.err before (decide (dp=0)&&st) (decide (dp=0)&&l.isEmpty) dp
   else aj.aQ x.kd false dp l
end
def q0z (l:List aj):Nat:=aj.aQ 0 true 0 l
def zP (k lv:Int) (i t d ti:ByteArray) (a:At) (li:List aj) (ks:List ah):Bool:=
 decide (1<=k)&&decide (k<=15)&&(([2,8]:List Int).contains k||decide (lv=0))&&(([3,10,13,14,15]:List Int).contains k||aV i)&&(([3,4]:List Int).contains k||aV t) &&
 (decide (k=15)||(aV d&&aV ti))&&(([2,4,13]:List Int).contains k||a.none)&&(([1,2,12]:List Int).contains k||li.isEmpty)&&(([6,7,8,9,10,11,13,14]:List Int).contains k||ks.isEmpty)
def dX (k par:Int):Bool:=
 if par=7\/par=8 then decide (k=9) else if par=10 then decide (k=11) else if par=11 then decide (k=12) else !([9,11,12]:List Int).contains k
def fA (s:ByteArray):Bool:=aV s||(je s&&decide (s.data.toList.getLast?=some 10))
def ah.oo:ah->Nat
 | .mk _ _ _ _ _ _ _ _ ks=>ks.length
def Tv (i:ByteArray) (ks:List ah):Nat:=
 if 32<i.size then 3 else if aV i=true then 5 else if i.data.toList.any (fun c=>!([45,108,99,114]:List UInt8).contains c) then 5
 else if ks.isEmpty=true then 8 else if ks.any (fun b=>!decide (b.oo=i.size)) then 15 else 0
def nO (cl:ByteArray->Bool) (k lv:Int) (i t d ti:ByteArray) (a:At) (li:List aj) (ks:List ah):Nat:=
 if k=1 then (if li.isEmpty=true then 8 else q0z li)
 else if k=2 then (if lv<1\/6<lv then 9 else if a.err≠0 then a.err else if aj.cO bT li=true then 5 else q0z li)
 else if k=12 then (if aj.cO bT li=true then 5 else q0z li)
 else if k=3 then (if cZ i=false\/trimS i=false\/fA t=false then 17 else 0)
 else if k=4 then (if fA t=false then 17 else if cl t=true then 5 else a.err)
 else if k=7\/k=8 then (if ks.isEmpty=true then 8 else if k=8/\(lv<0\/999999999<lv) then 9 else 0)
 else if k=10 then Tv i ks
 else if k=13\/k=14 then (if dQ i=false then 6 else a.err)
 else if k=15 then (if vF i=false then 6 else if cZ d=false\/cZ ti=false then 17 else 0)
 else 0
mutual
def ah.err (cl:ByteArray->Bool) (par:Int) (dp:Nat):ah->Nat
 | .mk k lv i t d ti a li ks=>if 15<dp then 11 else if zP k lv i t d ti a li ks=false\/dX k par=false then 5
   else if nO cl k lv i t d ti a li ks≠0 then nO cl k lv i t d ti a li ks else ah.aQ cl k (dp+1) ks
def ah.aQ (cl:ByteArray->Bool) (par:Int) (dp:Nat):List ah->Nat
 | []=>0
 | x::l=>if x.err cl par dp≠0 then x.err cl par dp else ah.aQ cl par dp l
end
def vJ (seen:List ByteArray):List Pr->Nat
 | []=>0
 | p::l=>if dQ p.key=false then 6 else if cZ p.val=false\/trimS p.val=false then 17 else if dO seen p.key=true then 7 else vJ (seen++[p.key]) l
theorem rP {α:Type} {l:List α} {y:α} (h:l.getLast?=some y):l=l.dropLast++[y]:=by obtain ⟨ys,rfl⟩:=List.getLast?_eq_some_iff.1 h;simp
theorem decodeN_more (n N b0 b1 b2 b3 c1 c2 c3:Nat) (hn:1<=n) (hN:n<=N) (h1:1<n->c1=b1) (h2:2<n->c2=b2) (h3:3<n->c3=b3) (h:Lib.decodeN n b0 b1 b2 b3≠(65533,1)) : Lib.decodeN N b0 c1 c2 c3=Lib.decodeN n b0 b1 b2 b3/\(Lib.decodeN n b0 b1 b2 b3).2<=n:=by
 by_cases a0:b0<128
 ·have e1:∀ m x y z,Lib.decodeN m b0 x y z=(b0,1):=fun m x y z=>by unfold Lib.decodeN;rw [if_pos a0]
  rw [e1,e1];exact ⟨rfl,hn⟩
 by_cases a1:b0/32=6/\(1<n/\b1/64=2)
 ·obtain ⟨p1,p2,p3⟩:=a1;obtain rfl:=h1 p2;have e1:∀ m y z,1<m->Lib.decodeN m b0 c1 y z=if b0%32*64+c1%64≥128 then (b0%32*64+c1%64,2) else (65533,1):=fun m y z hm=>by
   unfold Lib.decodeN;rw [if_neg a0,if_pos ⟨p1,hm,p3⟩]
  rw [e1 N c2 c3 (by omega),e1 n b2 b3 p2];refine ⟨rfl,?_⟩;split
  ·exact p2
  ·exact hn
 by_cases a2:b0/16=14/\(1<n/\b1/64=2)/\(2<n/\b2/64=2)
 ·obtain ⟨p1,⟨p2,p3⟩,p4,p5⟩:=a2;obtain rfl:=h1 p2;obtain rfl:=h2 p4;have e1:∀ m z,1<m->2<m->Lib.decodeN m b0 c1 c2 z=Lib.decodeN 3 b0 c1 c2 0:=fun m z hm hm2=>by
   unfold Lib.decodeN;rw [if_neg a0,if_neg a0,if_neg (show ¬ (b0/32=6/\_) from fun h=>by omega),if_neg (show ¬ (b0/32=6/\_) from fun h=>by omega),if_pos (show b0/16=14/\(1<m/\c1/64=2)/\(2<m/\c2/64=2) from ⟨p1,⟨hm,p3⟩,hm2,p5⟩),if_pos (show b0/16=14/\(1<3/\c1/64=2)/\(2<3/\c2/64=2) from ⟨p1,⟨by omega,p3⟩,by omega,p5⟩)]
  have e2:(Lib.decodeN 3 b0 c1 c2 0).2<=3:=by
   unfold Lib.decodeN;rw [if_neg a0,if_neg (show ¬ (b0/32=6/\_) from fun h=>by omega),if_pos ⟨p1,⟨by omega,p3⟩,by omega,p5⟩];split
   ·exact Nat.le_refl 3
   ·exact (by decide:1<=3)
  rw [e1 N c3 (by omega) (by omega),e1 n b3 p2 p4];exact ⟨rfl,by omega⟩
 by_cases a3:b0/8=30/\(1<n/\b1/64=2)/\(2<n/\b2/64=2)/\(3<n/\b3/64=2)
 ·obtain ⟨p1,⟨p2,p3⟩,⟨p4,p5⟩,p6,p7⟩:=a3;obtain rfl:=h1 p2;obtain rfl:=h2 p4;obtain rfl:=h3 p6;have e1:∀ m,1<m->2<m->3<m->Lib.decodeN m b0 c1 c2 c3=Lib.decodeN 4 b0 c1 c2 c3:=fun m hm hm2 TF=>by
   unfold Lib.decodeN;rw [if_neg a0,if_neg a0,if_neg (show ¬ (b0/32=6/\_) from fun h=>by omega),if_neg (show ¬ (b0/32=6/\_) from fun h=>by omega),if_neg (show ¬ (b0/16=14/\_) from fun h=>by omega),if_neg (show ¬ (b0/16=14/\_) from fun h=>by omega),
    if_pos (show b0/8=30/\(1<m/\c1/64=2)/\(2<m/\c2/64=2)/\(3<m/\c3/64=2) from ⟨p1,⟨hm,p3⟩,⟨hm2,p5⟩,TF,p7⟩),if_pos (show b0/8=30/\(1<4/\c1/64=2)/\(2<4/\c2/64=2)/\(3<4/\c3/64=2) from ⟨p1,⟨by omega,p3⟩,⟨by omega,p5⟩,by omega,p7⟩)]
  have e2:(Lib.decodeN 4 b0 c1 c2 c3).2<=4:=by
   unfold Lib.decodeN;rw [if_neg a0,if_neg (show ¬ (b0/32=6/\_) from fun h=>by omega),if_neg (show ¬ (b0/16=14/\_) from fun h=>by omega),if_pos ⟨p1,⟨by omega,p3⟩,⟨by omega,p5⟩,by omega,p7⟩];split
   ·exact Nat.le_refl 4
   ·exact (by decide:1<=4)
  rw [e1 N (by omega) (by omega) (by omega),e1 n p2 p4 p6];exact ⟨rfl,by omega⟩
 ·refine absurd ?_ h;unfold Lib.decodeN;rw [if_neg a0,if_neg a1,if_neg a2,if_neg a3]
theorem WC:nN (65533,1)=false:=by decide
theorem pY (l m:List UInt8) (i:Nat) (h:i<l.length):(l++m).getD i 0=l.getD i 0:=by rw [List.getD_eq_getElem?_getD,List.getD_eq_getElem?_getD,List.getElem?_append_left h]
theorem qc (l m:List UInt8) (i:Nat):(l++m).getD (l.length+i) 0=m.getD i 0:=by rw [List.getD_eq_getElem?_getD,List.getD_eq_getElem?_getD,List.getElem?_append_right (by omega),Nat.add_sub_cancel_left]
theorem oM (s t:ByteArray):(s++t).data.toList=s.data.toList++t.data.toList:=by simp [ByteArray.data_append]
theorem Bo (s:ByteArray):s.data.toList.length=s.size:=by simp
theorem WG (s t:ByteArray) (i:Nat) (hi:i<s.size) (hok:nN (Utf8.decode s i)=true):Utf8.decode (s++t) i=Utf8.decode s i/\i+(Utf8.decode s i).2<=s.size:=by
 have hl:=Bo s;have hne:Utf8.decode s i≠(65533,1):=fun e=>by rw [e,WC] at hok;cases hok
 rw [Lib.decode_N] at hne ⊢;have hb:=decodeN_more (s.data.toList.length-i) ((s.data.toList++t.data.toList).length-i) (s.data.toList.getD i 0).toNat (s.data.toList.getD (i+1) 0).toNat (s.data.toList.getD (i+2) 0).toNat (s.data.toList.getD (i+3) 0).toNat
  ((s.data.toList++t.data.toList).getD (i+1) 0).toNat ((s.data.toList++t.data.toList).getD (i+2) 0).toNat ((s.data.toList++t.data.toList).getD (i+3) 0).toNat (by omega) (by rw [List.length_append];omega)
  (fun h=>by rw [pY _ _ _ (by omega)]) (fun h=>by rw [pY _ _ _ (by omega)]) (fun h=>by rw [pY _ _ _ (by omega)]) (by rw [Lib.decode_N] at *;exact hne)
 rw [Lib.decode_N,oM,pY s.data.toList _ i (by omega)];refine ⟨hb.1,?_⟩;have:=hb.2;omega
theorem WH (s t:ByteArray) (i:Nat):Utf8.decode (s++t) (s.size+i)=Utf8.decode t i:=by have hl:=Bo s;rw [Lib.decode_N,Lib.decode_N,oM,<- hl,Nat.add_assoc,Nat.add_assoc,Nat.add_assoc,qc,qc,qc,qc,List.length_append,Nat.add_sub_add_left]
theorem Kc (s t:ByteArray):∀ (f i:Nat),dD (s++t) f (s.size+i)=dD t f i
 | 0,_=>rfl
 | f+1,i=>by
  rw [dD,dD,ByteArray.size_append];by_cases h:i<t.size
  ·rw [if_pos h,if_pos (by omega),WH,Nat.add_assoc,Kc s t f]
  ·rw [if_neg h,if_neg (by omega)]
theorem Ke (s:ByteArray):∀ (f g i:Nat),s.size<=i+f->s.size<=i+g->dD s f i=dD s g i
 | 0,g,i,hf,hg=>by rw [jR s g i (by omega)];rfl
 | f+1,0,i,hf,hg=>by rw [jR s (f+1) i (by omega)];rfl
 | f+1,g+1,i,hf,hg=>by
  rw [dD,dD];by_cases h:i<s.size
  ·have hw:=Lib.decode_width_pos s i h;rw [if_pos h,if_pos h,Ke s f g _ (by omega) (by omega)]
  ·rw [if_neg h,if_neg h]
theorem Kg (s t:ByteArray):∀ (f i F:Nat),i<=s.size->s.size<=i+f->(dD s f i).all nN=true->s.size+t.size<=i+F->dD (s++t) F i=dD s f i++dD t t.size 0
 | f,i,F,hi,hf,hok,hF=>by
  by_cases h:i<s.size
  ·cases f with
   | zero=>omega
   | succ f=>
    cases F with
    | zero=>omega
    | succ F=>
     rw [dD,if_pos h,List.all_cons,Bool.and_eq_true] at hok;obtain ⟨hd,hw⟩:=WG s t i h hok.1;have hw1:=Lib.decode_width_pos s i h;rw [dD,dD,if_pos h,if_pos (by rw [ByteArray.size_append];omega),hd,Kg s t f _ F hw (by omega) hok.2 (by omega),jL6]
  ·have e:i=s.size:=by omega
   subst e;rw [jR s f _ h,List.nil_append];have h2:=Kc s t F 0;rw [Nat.add_zero] at h2;rw [h2];exact Ke t F t.size 0 (by omega) (by omega)
theorem wm (s t:ByteArray) (hs:je s=true) (ht:je t=true):je (s++t)=true:=by unfold je at hs ht ⊢;unfold pts at hs ht ⊢;rw [Kg s t s.size 0 (s++t).size (by omega) (by omega) hs (by rw [ByteArray.size_append];omega),List.all_append,hs,ht];rfl
def eG (s:ByteArray):Prop:=∀ c∈s.data.toList,32<=c.toNat/\c.toNat<127
theorem P9 (s:ByteArray) (h:eG s):∀ (f i:Nat),(dD s f i).all nN=true
 | 0,_=>rfl
 | f+1,i=>by
  rw [dD];split
  ·rename_i hi
   have hm:s[i]∈s.data.toList:=by
    have:s[i]=s.data.toList[i]'(by simpa using hi):=by show s.data[i]=_;simp
    rw [this];exact List.getElem_mem _
   obtain ⟨h1,h2⟩:=h _ hm;rw [decode_ascii s i hi (by omega),List.all_cons,P9 s h f];simp [nN];omega
  ·rfl
theorem V6 (s:ByteArray) (h:eG s):cZ s=true:=by unfold cZ je pts;rw [P9 s h,Bool.true_and];unfold wI;rw [List.all_eq_true];intro c hc;have:=(h c hc).1;simp;intro e;rw [e] at this;simp at this
theorem yX (s t:ByteArray) (hs:eG s) (ht:eG t):eG (s++t):=by
 intro c hc;rw [oM] at hc;rcases List.mem_append.1 hc with hc | hc
 ·exact hs c hc
 ·exact ht c hc
open Go.RowKit
def uN (b:Nat):Nat:=if b<128 then 1 else if 194<=b/\b<=223 then 2 else if 224<=b/\b<=239 then 3 else if 240<=b/\b<=244 then 4 else 0
theorem kX (c:Nat) (w:World) (hc:c<256) : Calls prog 192 #[.int .u8 (c:Int)] w fun e w'=>e=.returned (.int .i64 (uN c:Nat))/\w=w':=by
 go_enter func192,ntmps192;go_wp2;all_goals
  go_ret;refine ⟨Mj ?_,rfl⟩;unfold uN
  (repeat' split)<;>omega
theorem uO (c:Nat) (w:World) (hc:c<256) : Calls prog 193 #[.int .u8 (c:Int)] w fun e w'=>e=.returned (.tuple #[.int .u8 (jD c:Nat),.int .u8 (kE c:Nat)])/\w=w':=by
 go_enter func193,ntmps193;go_wp2;all_goals
  go_ret2
  refine ⟨?_,rfl⟩
  (try simp only [beq_iff_eq,beq_eq_false_iff_ne,ne_eq] at *)
  unfold jD kE
  (repeat' split)<;>first | rfl | (exfalso;omega)
def WI (c:Nat):Bool:=(decide (c<32)&&!decide (c=10))||decide (c=127)
theorem WJ{P:Prop}(h:P:=by
 (try simp only [beq_iff_eq,beq_eq_false_iff_ne,ne_eq,bne_iff_ne,bne_eq_false_iff_eq] at *)
 rw [Bool.eq_iff_iff];simp
 (try omega)):P:=h
theorem D5 (c:Nat) (w:World) (hc:c<=1114111) : Calls prog 154 #[.int .i64 (c:Int)] w fun e w'=>e=.returned (.bool (WI c))/\w=w':=by
 go_enter func154,ntmps154;go_wp2;all_goals
  go_ret;refine ⟨vB ?_,rfl⟩;unfold WI;exact WJ
theorem qd (a:Nat) (ha:a<9223372036854775808):(BitVec.ofInt 64 (a:Int)).toNat=a:=by rw [BitVec.ofInt_natCast,BitVec.toNat_ofNat];exact Nat.mod_eq_of_lt (by omega)
theorem oV (a b:Nat) (ha:a<9223372036854775808) (hb:b<9223372036854775808):bits .and .i64 (a:Int) (b:Int)=((a &&& b:Nat):Int):=by have hx:a &&& b<2 ^ 63:=Nat.and_lt_two_pow _ (by omega);show IntKind.i64.wrap ((BitVec.ofInt 64 (a:Int) &&& BitVec.ofInt 64 (b:Int)).toNat:Int)=_;rw [BitVec.toNat_and,qd a ha,qd b hb,IntKind.wrap_i64];omega
theorem Nl (a b:Nat) (ha:a<9223372036854775808) (hb:b<9223372036854775808):bits .or .i64 (a:Int) (b:Int)=((a ||| b:Nat):Int):=by
 have hx:a ||| b<2 ^ 63:=Nat.or_lt_two_pow (by omega) (by omega)
 show IntKind.i64.wrap ((BitVec.ofInt 64 (a:Int) ||| BitVec.ofInt 64 (b:Int)).toNat:Int)=_;rw [BitVec.toNat_or,qd a ha,qd b hb,IntKind.wrap_i64];omega
def lu (s:ByteArray):Nat->Nat->Nat->Option Nat
 | 0,_,c=>some c
 | r+1,p,c=>if p<s.size/\128<=bt s p/\bt s p<=191 then lu s r (p+1) (c*64+(bt s p-128)) else none
def QL (s:ByteArray) (i:Nat) (n:Nat):Option Nat->Nat × Nat
 | none=>(65533,1)
 | some c=>(c,n)
theorem Iz (s:ByteArray) (i:Nat) (hi:i<s.size) (h:194<=bt s i) (h':bt s i<=223):Utf8.decode s i=QL s i 2 (lu s 1 (i+1) (bt s i%32)):=by
 obtain ⟨d1,d2⟩:=yN s i hi h h';unfold q24 at d1 d2;rw [lu,lu];split
 ·rename_i hc
  rw [if_pos hc] at d1 d2;obtain ⟨e1,e2⟩:=d2 (by omega);refine Prod.ext ?_ e2;show _=bt s i%32*64+(bt s (i+1)-128);omega
 ·rename_i hc
  rw [if_neg hc] at d1;exact d1 (by omega)
theorem ji9{P:Prop}(h:P:=by
 rw [if_neg (c:=i+1<s.size/\jD _<=_/\_) (by omega)] at d1;rw [if_neg (by omega)];exact d1 (.inl (by omega))):P:=h
theorem IE (s:ByteArray) (i:Nat) (hi:i<s.size) (h:224<=bt s i) (h':bt s i<=239) : ((¬ (i+1<s.size/\jD (bt s i)<=bt s (i+1)/\bt s (i+1)<=kE (bt s i))\/s.size<i+3)->Utf8.decode s i=(65533,1)) /\ (jD (bt s i)<=bt s (i+1)->bt s (i+1)<=kE (bt s i)->Utf8.decode s i=QL s i 3 (lu s 2 (i+1) (bt s i%16))):=by
 obtain ⟨d1,d2⟩:=Fb s i hi h h';have hl:128<=jD (bt s i):=by unfold jD;split<;>(try split)<;>omega
 have hh:kE (bt s i)<=191:=by unfold kE;split<;>(try split)<;>omega
 unfold q24 at d1 d2;constructor
 ·rintro (hc | hc)
  ·rw [if_neg hc] at d1;exact d1 (.inl (by omega))
  ·rw [if_neg (c:=i+2<s.size/\_) (by omega)] at d1;exact d1 (.inr (by omega))
 ·intro h1 h2;rw [lu,lu,lu,show i+1+1=i+2 from rfl];by_cases k1:i+1<s.size
  ·have hc:i+1<s.size/\jD (bt s i)<=bt s (i+1)/\bt s (i+1)<=kE (bt s i):=⟨k1,h1,h2⟩;rw [if_pos hc] at d1 d2;rw [if_pos ⟨k1,by omega,by omega⟩];split
   ·rename_i hc2
    rw [if_pos hc2] at d2;obtain ⟨e1,e2⟩:=d2 (by omega) (by omega);refine Prod.ext ?_ e2;show _=(bt s i%16*64+(bt s (i+1)-128))*64+(bt s (i+2)-128);omega
   ·rename_i hc2
    rw [if_neg (c:=i+2<s.size/\_) hc2] at d1;exact d1 (.inr (by omega))
  ·exact ji9
theorem IG (s:ByteArray) (i:Nat) (hi:i<s.size) (h:240<=bt s i) (h':bt s i<=244) : ((¬ (i+1<s.size/\jD (bt s i)<=bt s (i+1)/\bt s (i+1)<=kE (bt s i))\/s.size<i+4)->Utf8.decode s i=(65533,1)) /\ (jD (bt s i)<=bt s (i+1)->bt s (i+1)<=kE (bt s i)->Utf8.decode s i=QL s i 4 (lu s 3 (i+1) (bt s i%8))):=by
 obtain ⟨d1,d2⟩:=Ka s i hi h h';have hl:128<=jD (bt s i):=by unfold jD;split<;>(try split)<;>omega
 have hh:kE (bt s i)<=191:=by unfold kE;split<;>(try split)<;>omega
 unfold q24 at d1 d2;constructor
 ·rintro (hc | hc)
  ·rw [if_neg hc] at d1;exact d1 (.inl (by omega))
  ·rw [if_neg (c:=i+3<s.size/\_) (by omega)] at d1;exact d1 (.inr (.inr (by omega)))
 ·intro h1 h2;rw [lu,lu,lu,lu,show i+1+1=i+2 from rfl,show i+2+1=i+3 from rfl];by_cases k1:i+1<s.size
  ·have hc:i+1<s.size/\jD (bt s i)<=bt s (i+1)/\bt s (i+1)<=kE (bt s i):=⟨k1,h1,h2⟩;rw [if_pos hc] at d1 d2;rw [if_pos ⟨k1,by omega,by omega⟩];by_cases hc2:i+2<s.size/\128<=bt s (i+2)/\bt s (i+2)<=191
   ·rw [if_pos hc2] at d1 d2;rw [if_pos (by exact hc2)];split
    ·rename_i hc3
     rw [if_pos hc3] at d2;obtain ⟨e1,e2⟩:=d2 (by omega) (by omega) (by omega);refine Prod.ext ?_ e2;show _=((bt s i%8*64+(bt s (i+1)-128))*64+(bt s (i+2)-128))*64+(bt s (i+3)-128);omega
    ·rename_i hc3
     rw [if_neg (c:=i+3<s.size/\_) hc3] at d1;exact d1 (.inr (.inr (by omega)))
   ·rw [if_neg hc2] at d1;rw [if_neg (by exact hc2)];exact d1 (.inr (.inl (by omega)))
  ·exact ji9
theorem jtz (c b:Nat) (hb:b<64):(c*64) ||| b=c*64+b:=by rw [show 64=2 ^ 6 from rfl] at *;rw [Nat.mul_comm,<- Nat.two_pow_add_eq_or_of_lt hb]
theorem Nn (c bk:Nat) (hc:c<262144) (h1:128<=bk) (h2:bk<=191):bits .or .i64 ((c:Int)*64) ((bk:Int)%64)=((c*64+(bk-128):Nat):Int):=by
 have hw:((c:Int)*64)=((c*64:Nat):Int):=by omega
 have hm:((bk:Int)%64)=((bk%64:Nat):Int):=by omega
 rw [hw,hm,Nl _ _ (by omega) (by omega),jtz _ _ (by omega)];omega
def Qa (s:ByteArray) (i n:Nat) (R:Option Nat) (vc vk:Value):Prop:=∃ k c:Nat,k<=n-1/\c<64 ^ (k+1)/\vk=.int .i64 k/\vc=.int .i64 c/\lu s (n-1-k) (i+1+k) c=R
theorem WK{P:Prop}(h:P:=by
 have hcn:c*64+(bk-128)<64 ^ (k+1+1):=by rw [Nat.pow_succ];omega
 obtain ⟨cn,jzx⟩:∃ cn,c*64+(bk-128)=cn:=⟨_,rfl⟩;rw [jzx] at hor HR2 hcn;have HCN:=hid hcn;obtain ⟨g1,g2⟩:=hgd;clear hc hcn jzx HST HG;go_wp2
 go_round
 case rel=>exact ⟨k+1,cn,by omega,HCN.out,by go_num,rfl,HR2.out⟩
 case measure=>simp [intOf];omega):P:=h
theorem WL{P:Prop}(h:P:=by
 have HR2:Hid (R=none):=by show _=_;rw [<- HG.out,HST.out,if_neg (fun h=>hgd h.2)]
 have hgd:bk<128\/191<bk:=by omega
 clear hc HST HG;rcases hgd with hgd | hgd
 all_goals
  go_wp2
  go_ret2
  exact ⟨by rw [HR2.out];rfl,_,rfl⟩):P:=h
theorem WM{P Q:Prop}(q:Q)(h:Nonempty Q->P:=by
 intro qQ;have hik:i+1+k<s.size:=by omega
 have ek:=jE s (i+1+k) hik;have hbk:=gu s (i+1+k);have hcc:c<262144:=by have h:=Nat.pow_le_pow_right (show 0<64 by omega) (show k+1<=3 by omega);omega
 revert hik ek hbk hcc;exact qQ.elim fun x=>x):P:=h ⟨q⟩
theorem WO{P Q:Prop}(q:Q)(h:Nonempty Q->P:=by
 intro qQ;have q1:decide ((i:Int)<0)=false:=by simp
 have q3:decide (b1<lo)=false:=by simp;omega
 have q4:decide (hi_<b1)=false:=by simp;omega
 revert q1 q3 q4;exact qQ.elim fun x=>x):P:=h ⟨q⟩
theorem rZ (s:ByteArray) (i n b1:Nat) (w:World) (hs:s.size<=1000000000) (hn:i+n<=s.size) (h2:2<=n) (h4:n<=4) (hw:uN (bt s i)=n) (hb1:bt s (i+1)=b1) (hl:jD (bt s i)<=b1) (hh:b1<=kE (bt s i)) : Calls prog 153 #[.string s,.int .i64 (i:Int)] w fun e w'=>e=.returned (.tuple #[.int .i64 (QL s i n (lu s (n-1) (i+1) (bt s i%2 ^ (7-n)))).1,.int .i64 (QL s i n (lu s (n-1) (i+1) (bt s i%2 ^ (7-n)))).2])/\∃ q,w'=w.drewN q:=by
 have hb:=gu s i;have hi:i<s.size:=by omega
 have hi1:i+1<s.size:=by omega
 have e0:=jE s i hi;have e1:=jE s (i+1) hi1;rw [hb1] at e1;obtain ⟨b0,hb0⟩:∃ b0,bt s i=b0:=⟨_,rfl⟩;rw [hb0] at e0 hb hw hl hh ⊢;have WD:=hid (fun w=>kX b0 w hb);rw [hw] at WD;have SD:=hid (fun w=>uO b0 w hb);generalize jD b0=lo at *;generalize kE b0=hi_ at *;clear hb0 hw hb1;have a31:bits .and .i64 (b0:Int) 31=((b0%32:Nat):Int):=by rw [show (31:Int)=((31:Nat):Int) from rfl,oV b0 31 (by omega) (by omega),show 31=2 ^ 5-1 from rfl,Nat.and_two_pow_sub_one_eq_mod]
 have a15:bits .and .i64 (b0:Int) 15=((b0%16:Nat):Int):=by rw [show (15:Int)=((15:Nat):Int) from rfl,oV b0 15 (by omega) (by omega),show 15=2 ^ 4-1 from rfl,Nat.and_two_pow_sub_one_eq_mod]
 have a7:bits .and .i64 (b0:Int) 7=((b0%8:Nat):Int):=by rw [show (7:Int)=((7:Nat):Int) from rfl,oV b0 7 (by omega) (by omega),show 7=2 ^ 3-1 from rfl,Nat.and_two_pow_sub_one_eq_mod]
 obtain ⟨R,hR⟩:∃ R,lu s (n-1) (i+1) (b0%2 ^ (7-n))=R:=⟨_,rfl⟩;obtain ⟨c0,hc0⟩:∃ c0,b0%2 ^ (7-n)=c0:=⟨_,rfl⟩;have jF3:c0<64:=by rw [<- hc0];have:=Nat.mod_lt b0 (show 0<2 ^ (7-n) by exact Nat.two_pow_pos _);have h:=Nat.pow_le_pow_right (show 0<2 by omega) (show 7-n<=5 by omega);omega
 rw [hR];rw [hc0] at hR;have R0:Hid (Qa s i n R (.int .i64 c0) (.int .i64 0)):=⟨0,c0,Nat.zero_le _,by simpa using jF3,rfl,rfl,hR⟩;clear hR;obtain rfl | rfl | rfl:n=2\/n=3\/n=4:=by omega
 ·have hc0:b0%32=c0:=hc0;rw [hc0] at a31;clear a15 a7;have HC0:=hid hc0;clear hc0;have q2:decide ((s.size:Int)-(i:Int)<2)=false:=by simp;omega
  refine WO ?_;intro q1 q3 q4;go_enter func153,ntmps153;go_wp2_with (first | (go_at_call 192;refine (WD.out _).mono ?_;rintro e w1 ⟨rfl,rfl⟩) | (go_at_call 193;refine (SD.out _).mono ?_;rintro e w1 ⟨rfl,rfl⟩))
  go_quiet (fail)
  go_wp2
  go_loop [4,71] (fun c k=>Qa s i 2 R c k) (fun _ k=>2-(intOf k).toNat)
  case atStart=>exact R0.out
  case round=>
   clear R0 a31;obtain ⟨k,c,hk,hc,rfl,rfl,hg⟩:=hrel;have HG:=hid hg;clear hg;by_cases hk1:k<1
   ·refine WM ?_;intro hik ek hbk hcc;have hst:lu s (2-1-k) (i+1+k) c=if i+1+k<s.size/\128<=bt s (i+1+k)/\bt s (i+1+k)<=191 then lu s (2-1-(k+1)) (i+1+(k+1)) (c*64+(bt s (i+1+k)-128)) else none:=by
     rw [show 2-1-k=(2-1-(k+1))+1 by omega,lu];rfl
    obtain ⟨bk,hbe⟩:∃ bk,bt s (i+1+k)=bk:=⟨_,rfl⟩;rw [hbe] at ek hbk hst;have HST:=hid hst;clear hst hbe;by_cases hgd:128<=bk/\bk<=191
    ·have hor:=Nn c bk hcc hgd.1 hgd.2;have HR2:Hid (lu s (2-1-(k+1)) (i+1+(k+1)) (c*64+(bk-128))=R):=by
      show _=_;rw [<- HG.out,HST.out,if_pos ⟨hik,hgd⟩]
     exact WK
    ·exact WL
   ·obtain rfl:k=1:=by omega
    have HR2:Hid (R=some c):=by show _=_;rw [<- HG.out];rfl
    clear hc HG hk1;go_wp2
    go_ret2
    exact ⟨by rw [HR2.out];rfl,_,rfl⟩
 ·have hc0:b0%16=c0:=hc0;rw [hc0] at a15;clear a31 a7;have HC0:=hid hc0;clear hc0;have q2:decide ((s.size:Int)-(i:Int)<3)=false:=by simp;omega
  refine WO ?_;intro q1 q3 q4;go_enter func153,ntmps153;go_wp2_with (first | (go_at_call 192;refine (WD.out _).mono ?_;rintro e w1 ⟨rfl,rfl⟩) | (go_at_call 193;refine (SD.out _).mono ?_;rintro e w1 ⟨rfl,rfl⟩))
  go_quiet (fail)
  go_wp2
  go_loop [4,71] (fun c k=>Qa s i 3 R c k) (fun _ k=>3-(intOf k).toNat)
  case atStart=>exact R0.out
  case round=>
   clear R0 a15;obtain ⟨k,c,hk,hc,rfl,rfl,hg⟩:=hrel;have HG:=hid hg;clear hg;by_cases hk1:k<2
   ·refine WM ?_;intro hik ek hbk hcc;have hst:lu s (3-1-k) (i+1+k) c=if i+1+k<s.size/\128<=bt s (i+1+k)/\bt s (i+1+k)<=191 then lu s (3-1-(k+1)) (i+1+(k+1)) (c*64+(bt s (i+1+k)-128)) else none:=by
     rw [show 3-1-k=(3-1-(k+1))+1 by omega,lu];rfl
    obtain ⟨bk,hbe⟩:∃ bk,bt s (i+1+k)=bk:=⟨_,rfl⟩;rw [hbe] at ek hbk hst;have HST:=hid hst;clear hst hbe;by_cases hgd:128<=bk/\bk<=191
    ·have hor:=Nn c bk hcc hgd.1 hgd.2;have HR2:Hid (lu s (3-1-(k+1)) (i+1+(k+1)) (c*64+(bk-128))=R):=by
      show _=_;rw [<- HG.out,HST.out,if_pos ⟨hik,hgd⟩]
     exact WK
    ·exact WL
   ·obtain rfl:k=2:=by omega
    have HR2:Hid (R=some c):=by show _=_;rw [<- HG.out];rfl
    clear hc HG hk1;go_wp2
    go_ret2
    exact ⟨by rw [HR2.out];rfl,_,rfl⟩
 ·have hc0:b0%8=c0:=hc0;rw [hc0] at a7;clear a31 a15;have HC0:=hid hc0;clear hc0;have q2:decide ((s.size:Int)-(i:Int)<4)=false:=by simp;omega
  refine WO ?_;intro q1 q3 q4;go_enter func153,ntmps153;go_wp2_with (first | (go_at_call 192;refine (WD.out _).mono ?_;rintro e w1 ⟨rfl,rfl⟩) | (go_at_call 193;refine (SD.out _).mono ?_;rintro e w1 ⟨rfl,rfl⟩))
  go_quiet (fail)
  go_wp2
  go_loop [4,71] (fun c k=>Qa s i 4 R c k) (fun _ k=>4-(intOf k).toNat)
  case atStart=>exact R0.out
  case round=>
   clear R0 a7;obtain ⟨k,c,hk,hc,rfl,rfl,hg⟩:=hrel;have HG:=hid hg;clear hg;by_cases hk1:k<3
   ·refine WM ?_;intro hik ek hbk hcc;have hst:lu s (4-1-k) (i+1+k) c=if i+1+k<s.size/\128<=bt s (i+1+k)/\bt s (i+1+k)<=191 then lu s (4-1-(k+1)) (i+1+(k+1)) (c*64+(bt s (i+1+k)-128)) else none:=by
     rw [show 4-1-k=(4-1-(k+1))+1 by omega,lu];rfl
    obtain ⟨bk,hbe⟩:∃ bk,bt s (i+1+k)=bk:=⟨_,rfl⟩;rw [hbe] at ek hbk hst;have HST:=hid hst;clear hst hbe;by_cases hgd:128<=bk/\bk<=191
    ·have hor:=Nn c bk hcc hgd.1 hgd.2;have HR2:Hid (lu s (4-1-(k+1)) (i+1+(k+1)) (c*64+(bk-128))=R):=by
      show _=_;rw [<- HG.out,HST.out,if_pos ⟨hik,hgd⟩]
     exact WK
    ·exact WL
   ·obtain rfl:k=3:=by omega
    have HR2:Hid (R=some c):=by show _=_;rw [<- HG.out];rfl
    clear hc HG hk1;go_wp2
    go_ret2
    exact ⟨by rw [HR2.out];rfl,_,rfl⟩
def Dr (v:Value) (w:World) (e:Ending) (w':World):Prop:=e=.returned v/\∃ q,w'=w.drewN q
theorem Np (s:ByteArray) (i:Nat) (w:World) (hs:s.size<=1000000000) (hi:i<s.size) : Calls prog 153 #[.string s,.int .i64 (i:Int)] w (Dr (.tuple #[.int .i64 (Utf8.decode s i).1,.int .i64 (Utf8.decode s i).2]) w):=by
 have hb:=gu s i;have e0:=jE s i hi;have q1:decide ((i:Int)<0)=false:=by simp
 by_cases c1:bt s i<128
 ·rw [yL s i c1];obtain ⟨b0,hb0⟩:∃ b0,bt s i=b0:=⟨_,rfl⟩;rw [hb0] at e0 hb c1 ⊢;have hw:uN b0=1:=by unfold uN;rw [if_pos c1]
  have WD:=hid (fun w=>kX b0 w hb);rw [hw] at WD;clear hw hb0;go_enter func153,ntmps153;go_wp2_with ((go_at_call 192;refine (WD.out _).mono ?_;rintro e w1 ⟨rfl,rfl⟩))
  go_ret2
  exact ⟨rfl,0,rfl⟩
 by_cases c2:bt s i<194\/244<bt s i
 ·rw [yM s i (by omega) c2];obtain ⟨b0,hb0⟩:∃ b0,bt s i=b0:=⟨_,rfl⟩;rw [hb0] at e0 hb c1 c2;have hw:uN b0=0:=by unfold uN;(repeat' split)<;>omega
  have WD:=hid (fun w=>kX b0 w hb);rw [hw] at WD;clear hw hb0 c2;go_enter func153,ntmps153;go_wp2_with ((go_at_call 192;refine (WD.out _).mono ?_;rintro e w1 ⟨rfl,rfl⟩))
  go_ret2
  exact ⟨rfl,0,rfl⟩
 have bad:∀ n:Nat,2<=n->n<=4->uN (bt s i)=n->(s.size<i+n\/bt s (i+1)<jD (bt s i)\/kE (bt s i)<bt s (i+1)) ->
   Calls prog 153 #[.string s,.int .i64 (i:Int)] w (Dr (.tuple #[.int .i64 65533,.int .i64 1]) w):=by
  intro n h2 h4 hw hbad;obtain ⟨b0,hb0⟩:∃ b0,bt s i=b0:=⟨_,rfl⟩;rw [hb0] at e0 hb hw hbad;have WD:=hid (fun w=>kX b0 w hb);rw [hw] at WD;have hn0:((n:Int)==0)=false:=by rw [beq_eq_false_iff_ne];omega
  have hn1:((n:Int)==1)=false:=by rw [beq_eq_false_iff_ne];omega
  by_cases hsz:s.size<i+n
  ·have q2:decide ((s.size:Int)-(i:Int)<(n:Int))=true:=by simp;omega
   clear hw hb0 hbad;go_enter func153,ntmps153;go_wp2_with ((go_at_call 192;refine (WD.out _).mono ?_;rintro e w1 ⟨rfl,rfl⟩))
   go_ret2
   exact ⟨rfl,0,rfl⟩
  ·have q2:decide ((s.size:Int)-(i:Int)<(n:Int))=false:=by simp;omega
   have hi1:i+1<s.size:=by omega
   have e1:=jE s (i+1) hi1;have SD:=hid (fun w=>uO b0 w hb);have hbad:bt s (i+1)<jD b0\/kE b0<bt s (i+1):=by omega
   generalize jD b0=lo at *;generalize kE b0=hi_ at *;generalize bt s (i+1)=b1 at *;clear hw hb0 hsz;rcases hbad with hbad | hbad
   all_goals
    go_enter func153,ntmps153;go_wp2_with (first | (go_at_call 192;refine (WD.out _).mono ?_;rintro e w1 ⟨rfl,rfl⟩) | (go_at_call 193;refine (SD.out _).mono ?_;rintro e w1 ⟨rfl,rfl⟩))
    all_goals
     go_ret2
     exact ⟨rfl,0,rfl⟩
 by_cases c3:bt s i<=223
 ·have hw:uN (bt s i)=2:=by unfold uN;(repeat' split)<;>omega
  by_cases hbd:s.size<i+2\/bt s (i+1)<jD (bt s i)\/kE (bt s i)<bt s (i+1)
  ·have hd:Utf8.decode s i=(65533,1):=by
    refine (yN s i hi (by omega) c3).1 ?_;have hl:jD (bt s i)=128:=by unfold jD;(repeat' split)<;>omega
    have hh:kE (bt s i)=191:=by unfold kE;(repeat' split)<;>omega
    unfold q24;rw [if_neg (by omega)];omega
   rw [hd];exact bad 2 (by omega) (by omega) hw hbd
  ·rw [Iz s i hi (by omega) c3];exact rZ s i 2 _ w hs (by omega) (by omega) (by omega) hw rfl (by omega) (by omega)
 by_cases c4:bt s i<=239
 ·have hw:uN (bt s i)=3:=by unfold uN;(repeat' split)<;>omega
  obtain ⟨d1,d2⟩:=IE s i hi (by omega) c4;by_cases hbd:s.size<i+3\/bt s (i+1)<jD (bt s i)\/kE (bt s i)<bt s (i+1)
  ·rw [d1 (by omega)];exact bad 3 (by omega) (by omega) hw hbd
  ·rw [d2 (by omega) (by omega)];exact rZ s i 3 _ w hs (by omega) (by omega) (by omega) hw rfl (by omega) (by omega)
 ·have hw:uN (bt s i)=4:=by unfold uN;(repeat' split)<;>omega
  obtain ⟨d1,d2⟩:=IG s i hi (by omega) (by omega);by_cases hbd:s.size<i+4\/bt s (i+1)<jD (bt s i)\/kE (bt s i)<bt s (i+1)
  ·rw [d1 (by omega)];exact bad 4 (by omega) (by omega) hw hbd
  ·rw [d2 (by omega) (by omega)];exact rZ s i 4 _ w hs (by omega) (by omega) (by omega) hw rfl (by omega) (by omega)
def jij (s:ByteArray) (V:Bool) (w:World) (vi:Value) (wr:World):Prop:=∃ i f q:Nat,i<=s.size/\s.size<=i+f/\vi=.int .i64 i/\(dD s f i).all nN=V/\wr=w.drewN q
theorem jik{P:Prop}(h:P:=by
 cases hu:WI c
 all_goals
  rw [hu] at UN EK;clear hA k1 k2 hu Q5;go_wp2_with fail
  refine NX.out.mono ?_;rintro e w1 ⟨rfl,q1,rfl⟩;go_wp2_with fail
  refine (UN.out _).mono ?_;rintro e w1 ⟨rfl,rfl⟩;go_wp2
 ·go_roundw;case rel=>exact ⟨i+n,f-1,q+q1,hd,by omega,by go_num,by rw [<- HST.out,EK.out];simp,rfl⟩
  case measure=>simp [intOf];omega
 ·go_ret;exact ⟨by rw [<- HST.out,EK.out];rfl,_,rfl⟩):P:=h
theorem oW (s:ByteArray) (w:World) (hs:s.size<=1000000000) : Calls prog 115 #[.string s] w (Dr (.bool (je s)) w):=by
 obtain ⟨V,hV⟩:∃ V,V=je s:=⟨_,rfl⟩;rw [<- hV];have R0:Hid (jij s V w (.int .i64 0) w):=⟨0,s.size,0,Nat.zero_le _,by omega,rfl,by rw [hV];rfl,rfl⟩;clear hV;go_enter func115,ntmps115;go_wp2
 go_loopw [3] (fun i wr=>jij s V w i wr) (fun i _=>s.size-(intOf i).toNat)
 case atStart=>exact R0.out
 case round=>
  clear R0;obtain ⟨i,f,q,hi,hf,rfl,hall,rfl⟩:=hrel;by_cases hlt:i<s.size
  ·have NX:=hid (Np s i (w.drewN q) hs hlt);have hd:=pF s i hlt;have hp:=iU s i;have hc:(Utf8.decode s i).1<=1114111:=yZ s 1 i (Utf8.decode s i) (by rw [dD,if_pos hlt];simp);have hst:(nN (Utf8.decode s i)&&(dD s (f-1) (i+(Utf8.decode s i).2)).all nN)=V:=by
    rw [<- hall];obtain ⟨f',rfl⟩:∃ f',f=f'+1:=⟨f-1,by omega⟩;rw [dD,if_pos hlt];rfl
   have HST:=hid hst;clear hst hall;generalize Utf8.decode s i=d at *;obtain ⟨c,n⟩:=d;simp only at hd hp hc NX HST;have UN:=hid (fun w=>D5 c w hc);by_cases hA:c=65533/\n=1
   ·obtain ⟨rfl,rfl⟩:=hA;have HV:Hid (V=false):=by show V=false;rw [<- HST.out];rfl
    clear HST;go_wp2_with fail
    refine NX.out.mono ?_;rintro e w1 ⟨rfl,q1,rfl⟩;go_wp2;go_ret;exact ⟨by rw [HV.out];rfl,_,rfl⟩
   ·have hok:nN (c,n)=!WI c:=by
     unfold nN WI;rw [jKk];simp;omega
    have EK:=hid hok;clear hok;have k1:((c:Int)==65533)=decide (c=65533):=by rw [jKk];simp;omega
    have k2:((n:Int)==1)=decide (n=1):=by rw [jKk];simp;omega
    by_cases Q5:c=65533
    ·have hn1:n≠1:=fun h=>hA ⟨Q5,h⟩
     have l1:((c:Int)==65533)=true:=by rw [k1];simpa using Q5
     have l2:((n:Int)==1)=false:=by rw [k2];simpa using hn1
     clear hn1;exact jik
    ·have l1:((c:Int)==65533)=false:=by rw [k1];simpa using Q5
     exact jik
  ·have HV:Hid (V=true):=by
    show V=true;rw [<- hall,jR s f i hlt];rfl
   clear hall;go_wp2;go_ret;exact ⟨by rw [HV.out];rfl,q,rfl⟩
open Go.RowKit
theorem pG:∀ (l:List UInt8) (c:UInt8),decide (Lib.indexByte l c<0)=l.all fun x=>!decide (x=c)
 | [],c=>rfl
 | b::l,c=>by
  have ih:=pG l c;have hge:=Lib.indexByte_ge l c;rw [Lib.indexByte,List.all_cons,<- ih];by_cases h:b=c
  ·subst h;simp
  ·have h1:(b==c)=false:=by simpa using h
   rw [h1];by_cases h2:Lib.indexByte l c=-1
   ·simp [h2,h]
   ·have h3:(Lib.indexByte l c==-1)=false:=by simpa using h2
    simp only [Bool.false_eq_true,if_false,h3];rw [jKk];simp [h];omega
theorem RJ (s:ByteArray):decide (Lib.indexByte s.data.toList ((10:Int).toNat.toUInt8)<0)=wI s:=pG _ _
theorem Kh (s:ByteArray):cZ s=(je s&&decide (Lib.indexByte s.data.toList ((10:Int).toNat.toUInt8)<0)):=by rw [RJ];rfl
theorem pI (s:ByteArray):s.toList.isEmpty=aV s:=by rw [Lib.toList_data,jKk];simp [aV]
theorem WQ (s:ByteArray):aV s=decide (s.size=0):=by
 have h:s.data.toList.length=s.size:=by simp
 unfold aV;rw [jKk,decide_eq_true_iff,decide_eq_true_iff,<- h,List.length_eq_zero_iff]
theorem ju0 (s:ByteArray):aV s=decide (s=ByteArray.empty):=by
 unfold aV;rw [jKk,decide_eq_true_iff,decide_eq_true_iff];constructor
 ·intro h;exact ByteArray.ext (Array.ext' h)
 ·rintro rfl;rfl
theorem fq (s:ByteArray):s=ByteArray.empty\/(s≠ByteArray.empty/\0<s.size/\s.toList.isEmpty=false/\aV s=false):=by
 by_cases h:s=ByteArray.empty
 ·exact .inl h
 ·have h1:aV s=false:=by rw [ju0];simpa using h
  refine .inr ⟨h,?_,by rw [pI];exact h1,h1⟩;rw [WQ] at h1;have:s.size≠0:=by simpa using h1
  omega
theorem jiq{P:Prop}(h:P:=by
 go_wp2_with fail
 refine VA.out.mono ?_;rintro e w1 ⟨rfl,q,rfl⟩;go_wp2_with fail
 refine (IB.out _).mono ?_;rintro e w1 ⟨rfl,rfl⟩;go_wp2;go_ret;exact ⟨by rw [HL.out];rfl,_,rfl⟩):P:=h
theorem jix{P:Prop}(h:P:=by
 go_wp2_with fail
 refine VA.out.mono ?_;rintro e w1 ⟨rfl,q,rfl⟩;go_wp2;go_ret;exact ⟨by rw [HL.out];rfl,_,rfl⟩):P:=h
theorem E9 (s:ByteArray) (w:World) (hs:s.size<=1000000000) : Calls prog 148 #[.string s] w (Dr (.bool (cZ s)) w):=by
 have VA:=hid (oW s w hs);have IB:=hid (fun w=>Tryz.strings_IndexByte s 10 w);have HL:=hid (Kh s);generalize cZ s=V at *;generalize Lib.indexByte s.data.toList ((10:Int).toNat.toUInt8)=n at *;cases hv:je s with
 | false=>
  rw [hv] at VA HL;clear hv;go_enter func148,ntmps148;exact jix
 | true=>
  rw [hv] at VA HL;clear hv;go_enter func148,ntmps148;exact jiq
theorem Ue (s:ByteArray) (w:World) (hs:s.size<=1000000000) : Calls prog 93 #[.string s] w (Dr (.bool (cZ s)) w):=by
 have VA:=hid (oW s w hs);have IB:=hid (fun w=>Tryz.strings_IndexByte s 10 w);have HL:=hid (Kh s);generalize cZ s=V at *;generalize Lib.indexByte s.data.toList ((10:Int).toNat.toUInt8)=n at *;cases hv:je s with
 | false=>
  rw [hv] at VA HL;clear hv;go_enter func93,ntmps93;exact jix
 | true=>
  rw [hv] at VA HL;clear hv;go_enter func93,ntmps93;exact jiq
theorem jb2 (s:ByteArray) (c:UInt8) (h:0<s.size):decide (s.data.toList.head?=some c)=decide (bt s 0=c.toNat):=by
 have h1:s.data.toList.head?=some s[0]:=by rw [<- CY s 0 h];exact List.head?_eq_getElem?
 rw [h1,<- jE s 0 h,jKk];simp [UInt8.toNat_inj]
theorem G8 (s:ByteArray) (c:UInt8) (h:0<s.size):decide (s.data.toList.getLast?=some c)=decide (bt s (s.size-1)=c.toNat):=by
 have h1:s.data.toList.getLast?=some s[s.size-1]:=by rw [<- CY s (s.size-1) (by omega),List.getLast?_eq_getElem?];congr 1
 rw [h1,<- jE s (s.size-1) (by omega),jKk];simp [UInt8.toNat_inj]
theorem jiz{P Q:Prop}(q:Q)(h:Nonempty Q->P:=by
 intro qQ;have hv:trimS s=(!decide (bt s 0=32)&&!decide (bt s (s.size-1)=32)):=by unfold trimS;unfold aV at hes;rw [hes,jb2 s 32 hp,G8 s 32 hp];rfl
 rw [hv];have e0:=jE s 0 hp;have e1:=jE s (s.size-1) (by omega);revert hv e0 e1;exact qQ.elim fun x=>x):P:=h ⟨q⟩
theorem jF (s:ByteArray) (w:World) (hs:s.size<=1000000000) : Calls prog 94 #[.string s] w fun e w'=>e=.returned (.bool (trimS s))/\w=w':=by
 rcases fq s with rfl | ⟨hne,hp,hie,hes⟩
 ·go_enter func94,ntmps94;go_wp2;go_ret;exact ⟨rfl,rfl⟩
 ·refine jiz ?_;intro hv e0 e1;generalize bt s 0=b0 at *;generalize bt s (s.size-1)=b1 at *;have hsub:((s.size:Int)-1).toNat=s.size-1:=by omega
  clear hv hes;go_enter func94,ntmps94;go_wp2;all_goals
   go_ret;refine ⟨vB ?_,rfl⟩;exact WJ
theorem jj0{P:Prop}(h:P:=by
 (try simp only [beq_iff_eq,beq_eq_false_iff_ne,ne_eq,bne_iff_ne,bne_eq_false_iff_eq] at *)
 (try rw [Bool.eq_iff_iff])
 (try simp)
 (try omega)):P:=h
theorem qG (s:ByteArray) (w:World) (hs:s.size<=1000000000) : Calls prog 167 #[.string s] w (Dr (.bool (fA s)) w):=by
 rcases fq s with rfl | ⟨hne,hp,hie,hes⟩
 ·go_enter func167,ntmps167;go_wp2;go_ret;exact ⟨rfl,0,rfl⟩
 ·have hv:fA s=(je s&&decide (bt s (s.size-1)=10)):=by
   unfold fA;rw [hes,G8 s 10 hp];rfl
  rw [hv];have e1:=jE s (s.size-1) (by omega);have VA:=hid (oW s w hs);generalize bt s (s.size-1)=b1 at *;generalize je s=V at *;have hsub:((s.size:Int)-1).toNat=s.size-1:=by omega
  clear hv hes;cases V
  all_goals
   go_enter func167,ntmps167;go_wp2_with fail
   refine VA.out.mono ?_;rintro e w1 ⟨rfl,q,rfl⟩;go_wp2;all_goals
    go_ret;refine ⟨vB ?_,_,rfl⟩;exact jj0
def bO:List UInt8->List UInt8->Option (List UInt8 × List UInt8)
 | [],_=>none
 | c::l,acc=>
  if c=34 then some (acc,l)
  else if c=92 then (match l with
   | []=>none
   | d::l'=>if d=34\/d=92 then bO l' (acc++[d]) else none)
  else bO l (acc++[c])
def bX (l:List UInt8):ByteArray:=⟨l.toArray⟩
def Bz (l:List UInt8):Option (ByteArray × List UInt8):=
 if l.head?=some 34 then (match bO l.tail [] with
  | none=>none
  | some (v,r)=>if cZ (bX v)=true then some (bX v,r) else none)
 else if dQ (bX (l.takeWhile gM))=true then some (bX (l.takeWhile gM),l.dropWhile gM) else none
def uL (l:List UInt8):List UInt8:=if l.head?=some 35\/l.head?=some 46 then l.tail else l
def keysOf (a:At):List ByteArray:=a.aD.map Pr.key
def kW (a:At) (l:List UInt8):Option (At × List UInt8):=
 if dQ (bX ((uL l).takeWhile gM))=false then none
 else if l.head?=some 35 then (if aV a.id=false then none else some (⟨bX ((uL l).takeWhile gM),a.cls,a.aD⟩,(uL l).dropWhile gM))
 else if l.head?=some 46 then (if dO a.cls (bX ((uL l).takeWhile gM))=true then none else if 32<=a.cls.length then none
  else some (⟨a.id,a.cls++[bX ((uL l).takeWhile gM)],a.aD⟩,(uL l).dropWhile gM))
 else if ((uL l).dropWhile gM).head?=some 61 then (match Bz ((uL l).dropWhile gM).tail with
  | none=>none
  | some (v,r)=>if dO (keysOf a) (bX ((uL l).takeWhile gM))=true then none else if 32<=a.aD.length then none
   else some (⟨a.id,a.cls,a.aD++[⟨bX ((uL l).takeWhile gM),v⟩]⟩,r))
 else none
def eZ (c:UInt8):Bool:=decide (c=32)
def cu (l:List UInt8):List UInt8:=l.dropWhile eZ
def xV:Nat->At->Bool->List UInt8->Option (At × List UInt8)
 | 0,_,_,_=>none
 | f+1,a,sep,l=>
  if l.head?=some 125 then some (a,l.tail)
  else if l=[]\/sep=false then none
  else (match kW a l with
   | none=>none
   | some (a',l')=>xV f a' (decide (l'.head?=some 32)) (cu l'))
def q22 (l:List UInt8):Option (At × List UInt8):=
 if l.head?=some 123 then xV l.length ⟨bX [],[],[]⟩ true (cu l.tail) else none
theorem BM (p:UInt8->Bool):∀ (n r:List UInt8),(∀ c∈n,p c=true)->(∀ c,r.head?=some c->p c=false)->(n++r).takeWhile p=n/\(n++r).dropWhile p=r
 | [],r,_,h2=>by
  cases r with
  | nil=>exact ⟨rfl,rfl⟩
  | cons c r=>exact ⟨by simp [h2 c rfl],by simp [h2 c rfl]⟩
 | c::n,r,h1,h2=>by
  have hc:=h1 c (by simp);obtain ⟨k1,k2⟩:=BM p n r (fun x hx=>h1 x (by simp [hx])) h2;rw [jL6,List.takeWhile_cons,List.dropWhile_cons,hc];simp [k1,k2]
theorem gI (p:UInt8->Bool) (l:List UInt8):(∀ c∈l.takeWhile p,p c=true)/\(∀ c,(l.dropWhile p).head?=some c->p c=false):=by
 induction l with
 | nil=>simp
 | cons x l ih=>
  rw [List.takeWhile_cons,List.dropWhile_cons];cases h:p x with
  | true=>
   refine ⟨fun c hc=>?_,fun c hc=>ih.2 c (by simpa using hc)⟩;simp at hc;rcases hc with rfl | hc
   ·exact h
   ·exact ih.1 c hc
  | false=>exact ⟨by simp,fun c hc=>by simp at hc;rw [<- hc];exact h⟩
theorem ze (p:UInt8->Bool) (l r':List UInt8) (h:r'.head?=(l.dropWhile p).head?):(l.takeWhile p++r').takeWhile p=l.takeWhile p/\(l.takeWhile p++r').dropWhile p=r':=
 BM p _ _ (gI p l).1 (fun c hc=>(gI p l).2 c (by rw [<- h];exact hc))
theorem sj:∀ (n:Nat) (l acc v r:List UInt8),l.length<=n->bO l acc=some (v,r)->∃ p,l=p++r/\p≠[]/\∀ r',bO (p++r') acc=some (v,r')
 | n,[],acc,v,r,_,h=>by rw [bO] at h;cases h
 | 0,c::l,acc,v,r,hn,h=>by simp at hn
 | n+1,c::l,acc,v,r,hn,h=>by
  simp only [List.length_cons] at hn;rw [bO.eq_def] at h;simp only at h;by_cases h1:c=34
  ·rw [if_pos h1] at h;injection h with h
   injection h with h2 h3
   subst h2 h3;exact ⟨[c],rfl,by simp,fun r'=>by rw [List.singleton_append,bO.eq_def];simp only;rw [if_pos h1]⟩
  ·rw [if_neg h1] at h;by_cases h2:c=92
   ·rw [if_pos h2] at h;cases l with
    | nil=>cases h
    | cons d l'=>
     simp only at h;by_cases h3:d=34\/d=92
     ·rw [if_pos h3] at h;obtain ⟨p,e1,e2,e3⟩:=sj n l' (acc++[d]) v r (by simp at hn;omega) h;refine ⟨c::d::p,by rw [e1];rfl,by simp,fun r'=>?_⟩;rw [jL6,jL6,bO.eq_def];simp only;rw [if_neg h1,if_pos h2,if_pos h3];exact e3 r'
     ·rw [if_neg h3] at h;cases h
   ·rw [if_neg h2] at h;obtain ⟨p,e1,e2,e3⟩:=sj n l (acc++[c]) v r (by omega) h;refine ⟨c::p,by rw [e1];rfl,by simp,fun r'=>?_⟩;rw [jL6,bO.eq_def];simp only;rw [if_neg h1,if_neg h2];exact e3 r'
theorem qg (l:List UInt8) (h:dQ (bX l)=true):l≠[]:=by rintro rfl;revert h;decide
theorem Nq (l r:List UInt8) (v:ByteArray) (h:Bz l=some (v,r)):∃ p,l=p++r/\p≠[]/\∀ r',r'.head?=r.head?->Bz (p++r')=some (v,r'):=by
 unfold Bz at h;by_cases h1:l.head?=some 34
 ·rw [if_pos h1] at h;cases l with
  | nil=>simp at h1
  | cons c l=>
   obtain rfl:c=34:=by simpa using h1
   rw [List.tail_cons] at h;cases hq:bO l [] with
   | none=>rw [hq] at h;cases h
   | some z=>
    obtain ⟨v1,r1⟩:=z;rw [hq] at h;simp only at h;by_cases h2:cZ (bX v1)=true
    ·rw [if_pos h2] at h;injection h with h
     injection h with h3 h4
     subst h3 h4;obtain ⟨p,e1,e2,e3⟩:=sj _ l [] v1 r1 (Nat.le_refl _) hq;refine ⟨34::p,by rw [e1];rfl,by simp,fun r' _=>?_⟩;unfold Bz;rw [jL6,List.head?_cons,if_pos rfl,List.tail_cons,e3 r'];simp only;rw [if_pos h2]
    ·rw [if_neg h2] at h;cases h
 ·rw [if_neg h1] at h;by_cases h2:dQ (bX (l.takeWhile gM))=true
  ·rw [if_pos h2] at h;injection h with h
   injection h with h3 h4
   subst h3 h4;refine ⟨l.takeWhile gM,(List.takeWhile_append_dropWhile).symm,qg _ h2,fun r' hr=>?_⟩;obtain ⟨k1,k2⟩:=ze gM l r' hr;unfold Bz;have hh:(l.takeWhile gM++r').head?=l.head?:=by
    cases l with
    | nil=>exact absurd rfl (qg _ h2)
    | cons c l=>
     have hne:=qg _ h2;rw [List.takeWhile_cons] at hne ⊢;cases hc:gM c with
     | true=>simp
     | false=>rw [hc] at hne;simp at hne
   rw [hh,if_neg h1,k1,k2,if_pos h2]
  ·rw [if_neg h2] at h;cases h
theorem uP (p r r':List UInt8) (h:p≠[]):(p++r).head?=(p++r').head?:=by
 cases p with
 | nil=>exact absurd rfl h
 | cons c p=>rfl
theorem Fe (a a':At) (l r:List UInt8) (h:kW a l=some (a',r)):∃ p,l=p++r/\p≠[]/\∀ r',r'.head?=r.head?->kW a (p++r')=some (a',r'):=by
 unfold kW at h;by_cases h1:dQ (bX ((uL l).takeWhile gM))=false
 ·rw [if_pos h1] at h;cases h
 rw [if_neg h1] at h;have h1':dQ (bX ((uL l).takeWhile gM))=true:=by simpa using h1
 have hN:=qg _ h1';by_cases h2:l.head?=some 35
 ·rw [if_pos h2] at h;by_cases h3:aV a.id=false
  ·rw [if_pos h3] at h;cases h
  rw [if_neg h3] at h;injection h with h
  injection h with e1 e2
  cases l with
  | nil=>simp at h2
  | cons c l=>
   obtain rfl:c=35:=by simpa using h2
   have hA:∀ x,uL (35::x)=x:=fun x=>by simp [uL]
   rw [hA] at e1 e2 h1 hN;refine ⟨35::l.takeWhile gM,?_,by simp,fun r' hr=>?_⟩
   ·rw [<- e2,jL6,List.takeWhile_append_dropWhile]
   ·obtain ⟨k1,k2⟩:=ze gM l r' (by rw [hr,e2]);unfold kW;rw [jL6,hA,k1,k2,if_neg h1,List.head?_cons,if_pos rfl,if_neg h3,e1]
 rw [if_neg h2] at h;by_cases h3:l.head?=some 46
 ·rw [if_pos h3] at h;by_cases h4:dO a.cls (bX ((uL l).takeWhile gM))=true
  ·rw [if_pos h4] at h;cases h
  rw [if_neg h4] at h;by_cases h5:32<=a.cls.length
  ·rw [if_pos h5] at h;cases h
  rw [if_neg h5] at h;injection h with h
  injection h with e1 e2
  cases l with
  | nil=>simp at h3
  | cons c l=>
   obtain rfl:c=46:=by simpa using h3
   have hA:∀ x,uL (46::x)=x:=fun x=>by simp [uL]
   rw [hA] at e1 e2 h1 hN h4;refine ⟨46::l.takeWhile gM,?_,by simp,fun r' hr=>?_⟩
   ·rw [<- e2,jL6,List.takeWhile_append_dropWhile]
   ·obtain ⟨k1,k2⟩:=ze gM l r' (by rw [hr,e2]);unfold kW;rw [jL6,hA,k1,k2,if_neg h1,List.head?_cons,if_neg (by decide),if_pos rfl,if_neg h4,if_neg h5,e1]
 rw [if_neg h3] at h;have hA:uL l=l:=by unfold uL;rw [if_neg (by rintro (h | h);exact h2 h;exact h3 h)]
 rw [hA] at h h1 hN;by_cases h4:(l.dropWhile gM).head?=some 61
 ·rw [if_pos h4] at h;cases hv:Bz (l.dropWhile gM).tail with
  | none=>rw [hv] at h;cases h
  | some z=>
   obtain ⟨v,r1⟩:=z;rw [hv] at h;simp only at h;by_cases h5:dO (keysOf a) (bX (l.takeWhile gM))=true
   ·rw [if_pos h5] at h;cases h
   rw [if_neg h5] at h;by_cases h6:32<=a.aD.length
   ·rw [if_pos h6] at h;cases h
   rw [if_neg h6] at h;injection h with h
   injection h with e1 e2
   subst e2;obtain ⟨p1,q1,q2,q3⟩:=Nq _ _ _ hv;have hD:l.dropWhile gM=61::(l.dropWhile gM).tail:=by
    cases hd:l.dropWhile gM with
    | nil=>rw [hd] at h4;simp at h4
    | cons c m=>
     rw [hd] at h4;obtain rfl:c=61:=by simpa using h4
     rfl
   refine ⟨l.takeWhile gM++61::p1,?_,by simp,fun r' hr=>?_⟩
   ·rw [List.append_assoc,jL6,<- q1,<- hD,List.takeWhile_append_dropWhile]
   ·have hrr:(l.takeWhile gM++61::p1)++r'=l.takeWhile gM++(61::(p1++r')):=by simp
    obtain ⟨k1,k2⟩:=ze gM l (61::(p1++r')) (by rw [h4];rfl);have hh:(l.takeWhile gM++(61::(p1++r'))).head?=l.head?:=by
     conv=>rhs;rw [<- List.takeWhile_append_dropWhile (p:=gM) (l:=l)]
     exact uP _ _ _ hN
    have hA':uL (l.takeWhile gM++(61::(p1++r')))=l.takeWhile gM++(61::(p1++r')):=by unfold uL;rw [hh,if_neg (by rintro (h | h);exact h2 h;exact h3 h)]
    unfold kW;rw [hrr,hA',k1,k2,hh,if_neg h1,if_neg h2,if_neg h3,List.head?_cons,if_pos rfl,List.tail_cons,q3 r' hr];simp only;rw [if_neg h5,if_neg h6,e1]
 ·rw [if_neg h4] at h;cases h
theorem jj1{P:Prop}(h:P:=by
 rw [k1];have e:∀ x,p2++125::x=(p2++[125])++x:=fun x=>by simp
 rw [e r',e r];exact uP _ _ _ (by simp)):P:=h
theorem BO:∀ (f:Nat) (a a':At) (sep:Bool) (l r:List UInt8),xV f a sep l=some (a',r) -> ∃ p,l=p++125::r/\∀ r' f',p.length+r'.length+1<=f'->xV f' a sep (p++125::r')=some (a',r')
 | 0,a,a',sep,l,r,h=>by rw [xV] at h;cases h
 | f+1,a,a',sep,l,r,h=>by
  rw [xV] at h;by_cases h1:l.head?=some 125
  ·rw [if_pos h1] at h;injection h with h
   injection h with e1 e2
   subst e1 e2;cases l with
   | nil=>simp at h1
   | cons c l=>
    obtain rfl:c=125:=by simpa using h1
    refine ⟨[],rfl,fun r' f' hf=>?_⟩;obtain ⟨g,rfl⟩:∃ g,f'=g+1:=⟨f'-1,by omega⟩;rw [xV,List.nil_append,List.head?_cons,if_pos rfl];rfl
  rw [if_neg h1] at h;by_cases h2:l=[]\/sep=false
  ·rw [if_pos h2] at h;cases h
  rw [if_neg h2] at h;cases hi:kW a l with
  | none=>rw [hi] at h;cases h
  | some z=>
   obtain ⟨a1,l1⟩:=z;rw [hi] at h;simp only at h;obtain ⟨p1,q1,q2,q3⟩:=Fe _ _ _ _ hi;obtain ⟨p2,k1,k2⟩:=BO f a1 a' _ _ r h;have hl1:l1=l1.takeWhile eZ++(p2++125::r):=by rw [<- k1];exact (List.takeWhile_append_dropWhile).symm
   have hh:∀ r',(l1.takeWhile eZ++(p2++125::r')).head?=l1.head?:=fun r'=>by
    conv=>rhs;rw [hl1]
    have e:∀ x,l1.takeWhile eZ++(p2++125::x)=(l1.takeWhile eZ++p2++[125])++x:=fun x=>by simp
    rw [e,e];exact uP _ _ _ (by simp)
   have hs:∀ r',cu (l1.takeWhile eZ++(p2++125::r'))=p2++125::r':=fun r'=>by
    refine (BM eZ _ _ (gI eZ l1).1 (fun c hc=>(gI eZ l1).2 c ?_)).2;rw [<- hc];show (cu l1).head?=_;exact jj1
   refine ⟨p1++l1.takeWhile eZ++p2,?_,fun r' f' hf=>?_⟩
   ·rw [q1,List.append_assoc,List.append_assoc,<- hl1]
   ·obtain ⟨g,rfl⟩:∃ g,f'=g+1:=⟨f'-1,by omega⟩;have hp1:0<p1.length:=List.length_pos_iff.2 q2;have e:p1++l1.takeWhile eZ++p2++125::r'=p1++(l1.takeWhile eZ++(p2++125::r')):=by simp
    have hh2:(p1++(l1.takeWhile eZ++(p2++125::r'))).head?=l.head?:=by rw [q1];exact uP _ _ _ q2
    rw [e,xV,hh2,if_neg h1,if_neg,q3 _ (hh r')]
    ·simp only;rw [hh r',hs r'];refine k2 r' g ?_;simp only [List.length_append] at hf;omega
    ·rintro (h3 | h3)
     ·simp at h3
     ·exact h2 (.inr h3)
def fT (l:List UInt8):List UInt8:=(l.reverse.dropWhile eZ).reverse
theorem Fg (p r:List UInt8) (hr:∀ c∈r,eZ c=true) (hp:∀ c,p.getLast?=some c->eZ c=false):fT (p++r)=p:=by unfold fT;rw [List.reverse_append,(BM eZ r.reverse p.reverse (fun c hc=>hr c (by simpa using hc)) (fun c hc=>hp c (by simpa using hc))).2,List.reverse_reverse]
theorem oZ (l:List UInt8):∃ r,l=fT l++r/\∀ c∈r,eZ c=true:=by refine ⟨(l.reverse.takeWhile eZ).reverse,?_,fun c hc=>(gI eZ l.reverse).1 c (by simpa using hc)⟩;unfold fT;rw [<- List.reverse_append,List.takeWhile_append_dropWhile,List.reverse_reverse]
theorem BP (l r:List UInt8) (a:At) (h:q22 l=some (a,r)):∃ p,l=p++125::r/\∀ r',q22 (p++125::r')=some (a,r'):=by
 unfold q22 at h;by_cases h1:l.head?=some 123
 ·rw [if_pos h1] at h;cases l with
  | nil=>simp at h1
  | cons c l=>
   obtain rfl:c=123:=by simpa using h1
   rw [List.tail_cons] at h;obtain ⟨p2,k1,k2⟩:=BO _ _ _ _ _ _ h;have hl:l=l.takeWhile eZ++(p2++125::r):=by rw [<- k1];exact (List.takeWhile_append_dropWhile).symm
   have hs:∀ r',cu (l.takeWhile eZ++(p2++125::r'))=p2++125::r':=fun r'=>by
    refine (BM eZ _ _ (gI eZ l).1 (fun c hc=>(gI eZ l).2 c ?_)).2;rw [<- hc];show (cu l).head?=_;exact jj1
   refine ⟨123::(l.takeWhile eZ++p2),?_,fun r'=>?_⟩
   ·conv=>lhs;rw [hl]
    simp
   ·have e:123::(l.takeWhile eZ++p2)++125::r'=123::(l.takeWhile eZ++(p2++125::r')):=by simp
    unfold q22;rw [e,List.head?_cons,if_pos rfl,List.tail_cons,hs r'];refine k2 r' _ ?_;simp;omega
 ·rw [if_neg h1] at h;cases h
def su (l:List UInt8):Bool:=match q22 l with
 | none=>false
 | some (_,r)=>r.all eZ
def Nr (l:List UInt8):Bool:=match q22 (fT l) with
 | none=>false
 | some (_,r)=>r.isEmpty
theorem D6 (l:List UInt8):su l=Nr l:=by
 rw [jKk];unfold su Nr;constructor
 ·intro h;cases hp:q22 l with
  | none=>rw [hp] at h;cases h
  | some z=>
   obtain ⟨a,r⟩:=z;rw [hp] at h;simp only at h;obtain ⟨p,e1,e2⟩:=BP _ _ _ hp;have ht:fT l=p++[125]:=by
    have e:l=(p++[125])++r:=by rw [e1];simp
    rw [e];refine Fg _ _ (List.all_eq_true.1 h) (fun c hc=>?_);simp at hc;subst hc;decide
   rw [ht,e2 []];rfl
 ·intro h;cases hp:q22 (fT l) with
  | none=>rw [hp] at h;cases h
  | some z=>
   obtain ⟨a,r⟩:=z;rw [hp] at h;simp only at h;obtain rfl:r=[]:=by simpa using h
   obtain ⟨p,e1,e2⟩:=BP _ _ _ hp;obtain ⟨sp,k1,k2⟩:=oZ l;have e:l=p++125::sp:=by rw [k1,e1];simp
   rw [e,e2 sp];exact List.all_eq_true.2 k2
def fU (l:List UInt8):Bool:=
 decide ((l.takeWhile eZ).length<=3)&&decide ((cu l).take 2=[36,36])&&((cu ((cu l).drop 2)).isEmpty||su (cu ((cu l).drop 2)))
def jY:List UInt8->List UInt8->List (List UInt8)
 | _,[]=>[]
 | acc,c::l=>if c=10 then acc::jY [] l else jY (acc++[c]) l
def fZ (s:ByteArray):Bool:=(jY [] s.data.toList).any fU
end Go.Proofs.YtkfnkeflalcphaaGreatDoor

