/- Plain part: the errors of layer 4: what is not well-formed in inlines and blocks. Plain part: merged inlines: what Merge returns; it keeps the plain text, and changes nothing the second time, nor a line without errors. Plain part: groups of texts in Merge. Plain part: clean texts one after the other are clean. Plain part: entry lines, as the program and as the reference make them. Contracts of chars.width, second, unclean, Next, Valid; of attr.cleanLine, tree.cleanLine, trimmed, cleanText. Contracts of attr.cleanLine, tree.cleanLine, trimmed, cleanText, address' first test; attr.Empty. Contracts of attr.Empty, tree.oneOf, anyKind, inlineFields. The contract of attr.Check: the first error of attributes. publisherref04.count, sizes, Size, Depth; tree.sizeOfLine, sizeOfBlocks, Size, Depth. Size and Depth of documents, of tree and of the reference. Plain part: attributes in braces, read off a list of bytes; what is read does not depend on what stands behind the closing brace. Contracts of publisherref01.clean, Digit, Valid. Contracts of publisherref04.line, trimmed, has, in, noAttr and of publisherref03.line. Contracts of publisherref03.letter, part, word, Name. Contracts of publisherref03.hasText, hasKey, Check. -/
import Derived.Test.YtkfnkeflalcphaaGreatDoorKRowE
import Derived.Lib.RuneCount
import Derived.Test.YtkfnkeflalcphaaGreatDoorKSmall
set_option maxHeartbeats 8000000
set_option maxRecDepth 100000
open Go.Lib (hid)
namespace Go.Proofs.YtkfnkeflalcphaaGreatDoor
open List renaming getElem?_eq_getElem->jlz,mem_of_getElem?->jmq,cons_append->jmz,take_add_one->jn4
open Go.RowKit.Below renaming refl->jm0
open Nat renaming le_refl->jm1,zero_le->jmk
open Bool renaming eq_iff_iff->jm4
open Go renaming World->jp3,Value->jp5
set_option linter.unusedVariables false
set_option linter.unusedSimpArgs false
def Lf (p:Nat × Nat):Bool:=(decide (p.1=10)||(decide (32<=p.1)&&!decide (p.1=127)))&&!(decide (p.1=65533)&&decide (p.2=1))
def lT (s:ByteArray):Bool:=(pts s).all Lf
def jb1 (s:ByteArray):Bool:=s.data.toList.all fun c=>!decide (c=10)
def iK (s:ByteArray):Bool:=lT s&&jb1 s
def trimS (s:ByteArray):Bool:=decide (s.data.toList=[])||(!decide (s.data.toList.head?=some 32)&&!decide (s.data.toList.getLast?=some 32))
def eu (s:ByteArray) (bs:List UInt8):Bool:=s.data.toList.any fun c=>bs.contains c
def uR (p:Nat × Nat):Bool:=pU p.1||Ms p.1||[32,45,95,46,58].contains p.1
def eU (s:ByteArray):Bool:=decide (1<=s.size)&&decide (s.size<=60)&&decide (yZ s=s)&&(pts s).all uR
def aZ (s:ByteArray):Bool:=decide (s.data.toList=[])
def At.none (a:At):Bool:=aZ a.id&&a.cls.isEmpty&&a.aJ.isEmpty
def fA (seen:List ByteArray):List ByteArray->Nat
 | []=>0
 | c::l=>if jG c=false then 6 else if hasB seen c=true then 7 else fA (seen++[c]) l
def dL (seen:List ByteArray):List Pr->Nat
 | []=>0
 | p::l=>if jG p.key=false then 6 else if iK p.val=false then 17 else if hasB seen p.key=true then 7 else dL (seen++[p.key]) l
def At.err (a:At):Nat:=
 if aZ a.id=false/\jG a.id=false then 6
 else if fA [] a.cls≠0 then fA [] a.cls
 else if dL [] a.aJ≠0 then dL [] a.aJ
 else if 32<a.cls.length\/32<a.aJ.length then 3 else 0
mutual
def aj.OG (ks:List Int):aj->Bool
 | .mk k _ _ _ _ _ _ kids=>ks.contains k||aj.eB ks kids
def aj.eB (ks:List Int):List aj->Bool
 | []=>false
 | x::l=>x.OG ks||aj.eB ks l
end
def pV:List Int:=[9,16,12,14,13]
def kX:List Int:=[2,3]
def Fz (k:Int) (t d ti:ByteArray) (a:At) (ar:List ByteArray) (ci:List Ci) (ks:List aj):Bool:=
 decide (1<=k)&&decide (k<=16)&&(([1,4,5,9,10,12,14,15]:List Int).contains k||aZ t)&&(([9,10,16]:List Int).contains k||aZ d)&&(([9,10,14]:List Int).contains k||aZ ti) &&
 (([10,11]:List Int).contains k||a.none)&&(([6,7,8,9,10,11]:List Int).contains k||ks.isEmpty)&&(decide (k=15)||ar.isEmpty)&&(decide (k=13)||ci.isEmpty)
def lu (s:ByteArray):Nat:=(s.data.toList.takeWhile fun c=>j4 c.toNat).length
def uU (s:ByteArray):Bool:=decide (2<=lu s)&&decide (lu s<=20)&&decide (s.data.toList[lu s]?=some 58)&&iK s&&!eu s [32,60,62]
def mD (s:ByteArray):Bool:=!iK s||!trimS s||eu s [91,93,59,64,123,36,96]
def lD:List Ci->Nat
 | []=>0
 | c::l=>if jG c.key=false then 6 else if mD c.pre=true\/mD c.suf=true then 17 else lD l
def kK (l:List Ci):Nat:=if l.isEmpty=true then 8 else lD l
def jf (k:Int) (t d ti:ByteArray) (a:At) (ks:List aj):Nat:=
 if aZ t=false/\(aZ d=false\/aZ ti=false) then 5
 else if aZ t=false/\eU t=false then 6
 else if iK d=false\/iK ti=false then 17
 else if k=9/\aj.eB pV ks=true then 5
 else if k=10 then a.err else 0
def jo (s:ByteArray):Bool:=!iK s||eu s [124,123,125]
def DN:List UInt8:=[112,97,103,101]
def kL (k:Int) (t ti:ByteArray) (ar:List ByteArray):Nat:=
 if jG t=false then 6
 else if k=14/\aZ ti=false/\ti.data.toList≠DN then 5
 else if 8<ar.length then 3
 else if ar.any jo then 17 else 0
def tL (before:Int) (first last:Bool) (k:Int) (t d ti:ByteArray) (a:At) (ar:List ByteArray) (ci:List Ci) (ks:List aj):Nat:=
 if Fz k t d ti a ar ci ks=false then 5
 else if k=1\/k=4\/k=5 then (if aZ t=true\/iK t=false then 17 else if k≠5/\before=k then 5 else 0)
 else if k=2 then (if before=2\/before=3\/first=true\/last=true then 5 else 0)
 else if k=3 then (if last=true then 5 else 0)
 else if k=6\/k=7\/k=8 then (if ks.isEmpty=true then 8 else 0)
 else if k=9\/k=10 then jf k t d ti a ks
 else if k=11 then (if a.none=true then 8 else a.err)
 else if k=12\/k=14\/k=15 then kL k t ti ar
 else if k=13 then kK ci
 else if uU d=true then 0 else 5
def aj.kd:aj->Int
 | .mk k _ _ _ _ _ _ _=>k
mutual
def aj.err (before:Int) (first last:Bool) (dp:Nat):aj->Nat
 | .mk k t d ti a ar ci ks=>if tL before first last k t d ti a ar ci ks≠0 then tL before first last k t d ti a ar ci ks else aj.aT 0 true (dp+1) ks
def aj.aT (before:Int) (st:Bool) (dp:Nat):List aj->Nat
 | []=>0
 | x::l=>if 15<dp then 11 else if x.err before (decide (dp=0)&&st) (decide (dp=0)&&l.isEmpty) dp≠0 then x.err before (decide (dp=0)&&st) (decide (dp=0)&&l.isEmpty) dp
   else aj.aT x.kd false dp l
end
def FN (l:List aj):Nat:=aj.aT 0 true 0 l
def Cy (k lv:Int) (i t d ti:ByteArray) (a:At) (li:List aj) (ks:List ah):Bool:=
 decide (1<=k)&&decide (k<=15)&&(([2,8]:List Int).contains k||decide (lv=0))&&(([3,10,13,14,15]:List Int).contains k||aZ i)&&(([3,4]:List Int).contains k||aZ t) &&
 (decide (k=15)||(aZ d&&aZ ti))&&(([2,4,13]:List Int).contains k||a.none)&&(([1,2,12]:List Int).contains k||li.isEmpty)&&(([6,7,8,9,10,11,13,14]:List Int).contains k||ks.isEmpty)
def gP (k par:Int):Bool:=
 if par=7\/par=8 then decide (k=9) else if par=10 then decide (k=11) else if par=11 then decide (k=12) else !([9,11,12]:List Int).contains k
def lX (s:ByteArray):Bool:=aZ s||(lT s&&decide (s.data.toList.getLast?=some 10))
def ah.wX:ah->Nat
 | .mk _ _ _ _ _ _ _ _ ks=>ks.length
def jA (i:ByteArray) (ks:List ah):Nat:=
 if 32<i.size then 3 else if aZ i=true then 5 else if i.data.toList.any (fun c=>!([45,108,99,114]:List UInt8).contains c) then 5
 else if ks.isEmpty=true then 8 else if ks.any (fun b=>!decide (b.wX=i.size)) then 15 else 0
def ug (cl:ByteArray->Bool) (k lv:Int) (i t d ti:ByteArray) (a:At) (li:List aj) (ks:List ah):Nat:=
 if k=1 then (if li.isEmpty=true then 8 else FN li)
 else if k=2 then (if lv<1\/6<lv then 9 else if a.err≠0 then a.err else if aj.eB kX li=true then 5 else FN li)
 else if k=12 then (if aj.eB kX li=true then 5 else FN li)
 else if k=3 then (if iK i=false\/trimS i=false\/lX t=false then 17 else 0)
 else if k=4 then (if lX t=false then 17 else if cl t=true then 5 else a.err)
 else if k=7\/k=8 then (if ks.isEmpty=true then 8 else if k=8/\(lv<0\/999999999<lv) then 9 else 0)
 else if k=10 then jA i ks
 else if k=13\/k=14 then (if jG i=false then 6 else a.err)
 else if k=15 then (if eU i=false then 6 else if iK d=false\/iK ti=false then 17 else 0)
 else 0
mutual
def ah.err (cl:ByteArray->Bool) (par:Int) (dp:Nat):ah->Nat
 | .mk k lv i t d ti a li ks=>if 15<dp then 11 else if Cy k lv i t d ti a li ks=false\/gP k par=false then 5
   else if ug cl k lv i t d ti a li ks≠0 then ug cl k lv i t d ti a li ks else ah.aT cl k (dp+1) ks
def ah.aT (cl:ByteArray->Bool) (par:Int) (dp:Nat):List ah->Nat
 | []=>0
 | x::l=>if x.err cl par dp≠0 then x.err cl par dp else ah.aT cl par dp l
end
def eD (seen:List ByteArray):List Pr->Nat
 | []=>0
 | p::l=>if jG p.key=false then 6 else if iK p.val=false\/trimS p.val=false then 17 else if hasB seen p.key=true then 7 else eD (seen++[p.key]) l
theorem GY {α:Type} {l:List α} {y:α} (h:l.getLast?=some y):l=l.dropLast++[y]:=by obtain ⟨ys,rfl⟩:=List.getLast?_eq_some_iff.1 h;simp
open Go.RowKit
def qC (b:Nat):Nat:=if b<128 then 1 else if 194<=b/\b<=223 then 2 else if 224<=b/\b<=239 then 3 else if 240<=b/\b<=244 then 4 else 0
theorem jU (c:Nat) (w:jp3) (hc:c<256) : Calls Tryz.prog 192 #[.int .u8 (c:Int)] w fun e w'=>e=.returned (.int .i64 (qC c:Nat))/\w=w':=by
 go_enter Tryz.func192,Tryz.ntmps192;go_wp2;all_goals
  go_ret;refine ⟨jK ?_,rfl⟩;unfold qC
  (repeat' split)<;>omega
theorem qD (c:Nat) (w:jp3) (hc:c<256) : Calls Tryz.prog 193 #[.int .u8 (c:Int)] w fun e w'=>e=.returned (.tuple #[.int .u8 (l9 c:Nat),.int .u8 (oo c:Nat)])/\w=w':=by
 go_enter Tryz.func193,Tryz.ntmps193;go_wp2;all_goals
  go_ret2
  refine ⟨?_,rfl⟩
  (try simp only [beq_iff_eq,beq_eq_false_iff_ne,ne_eq] at *)
  unfold l9 oo
  (repeat' split)<;>first | rfl | (exfalso;omega)
def Lg (c:Nat):Bool:=(decide (c<32)&&!decide (c=10))||decide (c=127)
theorem yQ (c:Nat) (w:jp3) (hc:c<=1114111) : Calls Tryz.prog 154 #[.int .i64 (c:Int)] w fun e w'=>e=.returned (.bool (Lg c))/\w=w':=by
 go_enter Tryz.func154,Tryz.ntmps154;go_wp2;all_goals
  go_ret;refine ⟨DK ?_,rfl⟩;unfold Lg
  (try simp only [beq_iff_eq,beq_eq_false_iff_ne,ne_eq,bne_iff_ne,bne_eq_false_iff_eq] at *)
  rw [jm4];simp
  (try omega)
theorem nQ (a:Nat) (ha:a<9223372036854775808):(BitVec.ofInt 64 (a:Int)).toNat=a:=by rw [BitVec.ofInt_natCast,BitVec.toNat_ofNat];exact Nat.mod_eq_of_lt (by omega)
theorem mY (a b:Nat) (ha:a<9223372036854775808) (hb:b<9223372036854775808):bits .and .i64 (a:Int) (b:Int)=((a &&& b:Nat):Int):=by have hx:a &&& b<2 ^ 63:=Nat.and_lt_two_pow _ (by omega);show IntKind.i64.wrap ((BitVec.ofInt 64 (a:Int) &&& BitVec.ofInt 64 (b:Int)).toNat:Int)=_;rw [BitVec.toNat_and,nQ a ha,nQ b hb,IntKind.wrap_i64];omega
theorem G7 (a b:Nat) (ha:a<9223372036854775808) (hb:b<9223372036854775808):bits .or .i64 (a:Int) (b:Int)=((a ||| b:Nat):Int):=by
 have hx:a ||| b<2 ^ 63:=Nat.or_lt_two_pow (by omega) (by omega)
 show IntKind.i64.wrap ((BitVec.ofInt 64 (a:Int) ||| BitVec.ofInt 64 (b:Int)).toNat:Int)=_;rw [BitVec.toNat_or,nQ a ha,nQ b hb,IntKind.wrap_i64];omega
def jZ (s:ByteArray):Nat->Nat->Nat->Option Nat
 | 0,_,c=>some c
 | r+1,p,c=>if p<s.size/\128<=bt s p/\bt s p<=191 then jZ s r (p+1) (c*64+(bt s p-128)) else none
def J9 (s:ByteArray) (i:Nat) (n:Nat):Option Nat->Nat × Nat
 | none=>(65533,1)
 | some c=>(c,n)
theorem Dw (s:ByteArray) (i:Nat) (hi:i<s.size) (h:194<=bt s i) (h':bt s i<=223):Utf8.decode s i=J9 s i 2 (jZ s 1 (i+1) (bt s i%32)):=by
 obtain ⟨d1,d2⟩:=AX s i hi h h';unfold dH at d1 d2;rw [jZ,jZ];split
 ·rename_i hc
  rw [if_pos hc] at d1 d2;obtain ⟨e1,e2⟩:=d2 (by omega);refine Prod.ext ?_ e2;show _=bt s i%32*64+(bt s (i+1)-128);omega
 ·rename_i hc
  rw [if_neg hc] at d1;exact d1 (by omega)
theorem Dx (s:ByteArray) (i:Nat) (hi:i<s.size) (h:224<=bt s i) (h':bt s i<=239) : ((¬ (i+1<s.size/\l9 (bt s i)<=bt s (i+1)/\bt s (i+1)<=oo (bt s i))\/s.size<i+3)->Utf8.decode s i=(65533,1)) /\ (l9 (bt s i)<=bt s (i+1)->bt s (i+1)<=oo (bt s i)->Utf8.decode s i=J9 s i 3 (jZ s 2 (i+1) (bt s i%16))):=by
 obtain ⟨d1,d2⟩:=Lb s i hi h h';have hl:128<=l9 (bt s i):=by unfold l9;split<;>(try split)<;>omega
 have hh:oo (bt s i)<=191:=by unfold oo;split<;>(try split)<;>omega
 unfold dH at d1 d2;constructor
 ·rintro (hc | hc)
  ·rw [if_neg hc] at d1;exact d1 (.inl (by omega))
  ·rw [if_neg (c:=i+2<s.size/\_) (by omega)] at d1;exact d1 (.inr (by omega))
 ·intro h1 h2;rw [jZ,jZ,jZ,show i+1+1=i+2 from rfl];by_cases k1:i+1<s.size
  ·have hc:i+1<s.size/\l9 (bt s i)<=bt s (i+1)/\bt s (i+1)<=oo (bt s i):=⟨k1,h1,h2⟩;rw [if_pos hc] at d1 d2;rw [if_pos ⟨k1,by omega,by omega⟩];split
   ·rename_i hc2
    rw [if_pos hc2] at d2;obtain ⟨e1,e2⟩:=d2 (by omega) (by omega);refine Prod.ext ?_ e2;show _=(bt s i%16*64+(bt s (i+1)-128))*64+(bt s (i+2)-128);omega
   ·rename_i hc2
    rw [if_neg (c:=i+2<s.size/\_) hc2] at d1;exact d1 (.inr (by omega))
  ·rw [if_neg (c:=i+1<s.size/\l9 _<=_/\_) (by omega)] at d1;rw [if_neg (by omega)];exact d1 (.inl (by omega))
theorem Dy (s:ByteArray) (i:Nat) (hi:i<s.size) (h:240<=bt s i) (h':bt s i<=244) : ((¬ (i+1<s.size/\l9 (bt s i)<=bt s (i+1)/\bt s (i+1)<=oo (bt s i))\/s.size<i+4)->Utf8.decode s i=(65533,1)) /\ (l9 (bt s i)<=bt s (i+1)->bt s (i+1)<=oo (bt s i)->Utf8.decode s i=J9 s i 4 (jZ s 3 (i+1) (bt s i%8))):=by
 obtain ⟨d1,d2⟩:=Oo s i hi h h';have hl:128<=l9 (bt s i):=by unfold l9;split<;>(try split)<;>omega
 have hh:oo (bt s i)<=191:=by unfold oo;split<;>(try split)<;>omega
 unfold dH at d1 d2;constructor
 ·rintro (hc | hc)
  ·rw [if_neg hc] at d1;exact d1 (.inl (by omega))
  ·rw [if_neg (c:=i+3<s.size/\_) (by omega)] at d1;exact d1 (.inr (.inr (by omega)))
 ·intro h1 h2;rw [jZ,jZ,jZ,jZ,show i+1+1=i+2 from rfl,show i+2+1=i+3 from rfl];by_cases k1:i+1<s.size
  ·have hc:i+1<s.size/\l9 (bt s i)<=bt s (i+1)/\bt s (i+1)<=oo (bt s i):=⟨k1,h1,h2⟩;rw [if_pos hc] at d1 d2;rw [if_pos ⟨k1,by omega,by omega⟩];by_cases hc2:i+2<s.size/\128<=bt s (i+2)/\bt s (i+2)<=191
   ·rw [if_pos hc2] at d1 d2;rw [if_pos (by exact hc2)];split
    ·rename_i hc3
     rw [if_pos hc3] at d2;obtain ⟨e1,e2⟩:=d2 (by omega) (by omega) (by omega);refine Prod.ext ?_ e2;show _=((bt s i%8*64+(bt s (i+1)-128))*64+(bt s (i+2)-128))*64+(bt s (i+3)-128);omega
    ·rename_i hc3
     rw [if_neg (c:=i+3<s.size/\_) hc3] at d1;exact d1 (.inr (.inr (by omega)))
   ·rw [if_neg hc2] at d1;rw [if_neg (by exact hc2)];exact d1 (.inr (.inl (by omega)))
  ·rw [if_neg (c:=i+1<s.size/\l9 _<=_/\_) (by omega)] at d1;rw [if_neg (by omega)];exact d1 (.inl (by omega))
theorem W9 (c b:Nat) (hb:b<64):(c*64) ||| b=c*64+b:=by rw [show 64=2 ^ 6 from rfl] at *;rw [Nat.mul_comm,<- Nat.two_pow_add_eq_or_of_lt hb]
theorem G8 (c bk:Nat) (hc:c<262144) (h1:128<=bk) (h2:bk<=191):bits .or .i64 ((c:Int)*64) ((bk:Int)%64)=((c*64+(bk-128):Nat):Int):=by
 have hw:((c:Int)*64)=((c*64:Nat):Int):=by omega
 have hm:((bk:Int)%64)=((bk%64:Nat):Int):=by omega
 rw [hw,hm,G7 _ _ (by omega) (by omega),W9 _ _ (by omega)];omega
def Jz (s:ByteArray) (i n:Nat) (R:Option Nat) (vc vk:jp5):Prop:=∃ k c:Nat,k<=n-1/\c<64 ^ (k+1)/\vk=.int .i64 k/\vc=.int .i64 c/\jZ s (n-1-k) (i+1+k) c=R
theorem pF (s:ByteArray) (i n b1:Nat) (w:jp3) (hs:s.size<=1000000000) (hn:i+n<=s.size) (h2:2<=n) (h4:n<=4) (hw:qC (bt s i)=n) (hb1:bt s (i+1)=b1) (hl:l9 (bt s i)<=b1) (hh:b1<=oo (bt s i)) : Calls Tryz.prog 153 #[.string s,.int .i64 (i:Int)] w fun e w'=>e=.returned (.tuple #[.int .i64 (J9 s i n (jZ s (n-1) (i+1) (bt s i%2 ^ (7-n)))).1,.int .i64 (J9 s i n (jZ s (n-1) (i+1) (bt s i%2 ^ (7-n)))).2])/\∃ q,w'=w.drewN q:=by
 have hb:=iD s i;have hi:i<s.size:=by omega
 have hi1:i+1<s.size:=by omega
 have e0:=dn s i hi;have e1:=dn s (i+1) hi1;rw [hb1] at e1;obtain ⟨b0,hb0⟩:∃ b0,bt s i=b0:=⟨_,rfl⟩;rw [hb0] at e0 hb hw hl hh ⊢;have WD:=hid (fun w=>jU b0 w hb);rw [hw] at WD;have SD:=hid (fun w=>qD b0 w hb);generalize l9 b0=lo at *;generalize oo b0=hi_ at *;clear hb0 hw hb1;have a31:bits .and .i64 (b0:Int) 31=((b0%32:Nat):Int):=by rw [show (31:Int)=((31:Nat):Int) from rfl,mY b0 31 (by omega) (by omega),show 31=2 ^ 5-1 from rfl,Nat.and_two_pow_sub_one_eq_mod]
 have a15:bits .and .i64 (b0:Int) 15=((b0%16:Nat):Int):=by rw [show (15:Int)=((15:Nat):Int) from rfl,mY b0 15 (by omega) (by omega),show 15=2 ^ 4-1 from rfl,Nat.and_two_pow_sub_one_eq_mod]
 have a7:bits .and .i64 (b0:Int) 7=((b0%8:Nat):Int):=by rw [show (7:Int)=((7:Nat):Int) from rfl,mY b0 7 (by omega) (by omega),show 7=2 ^ 3-1 from rfl,Nat.and_two_pow_sub_one_eq_mod]
 obtain ⟨R,hR⟩:∃ R,jZ s (n-1) (i+1) (b0%2 ^ (7-n))=R:=⟨_,rfl⟩;obtain ⟨c0,hc0⟩:∃ c0,b0%2 ^ (7-n)=c0:=⟨_,rfl⟩;have jh8:c0<64:=by rw [<- hc0];have:=Nat.mod_lt b0 (show 0<2 ^ (7-n) by exact Nat.two_pow_pos _);have h:=Nat.pow_le_pow_right (show 0<2 by omega) (show 7-n<=5 by omega);omega
 rw [hR];rw [hc0] at hR;have R0:Hid (Jz s i n R (.int .i64 c0) (.int .i64 0)):=⟨0,c0,jmk _,by simpa using jh8,rfl,rfl,hR⟩;clear hR;obtain rfl | rfl | rfl:n=2\/n=3\/n=4:=by omega
 ·have hc0:b0%32=c0:=hc0;rw [hc0] at a31;clear a15 a7;have HC0:=hid hc0;clear hc0;have q2:decide ((s.size:Int)-(i:Int)<2)=false:=by simp;omega
  have q1:decide ((i:Int)<0)=false:=by simp
  have q3:decide (b1<lo)=false:=by simp;omega
  have q4:decide (hi_<b1)=false:=by simp;omega
  go_enter Tryz.func153,Tryz.ntmps153;go_wp2_with (first | (go_at_call 192;refine (WD.out _).mono ?_;rintro e w1 ⟨rfl,rfl⟩) | (go_at_call 193;refine (SD.out _).mono ?_;rintro e w1 ⟨rfl,rfl⟩))
  go_quiet (fail)
  go_wp2
  go_loop [4,71] (fun c k=>Jz s i 2 R c k) (fun _ k=>2-(intOf k).toNat)
  case atStart=>exact R0.out
  case round=>
   clear R0 a31;obtain ⟨k,c,hk,hc,rfl,rfl,hg⟩:=hrel;have HG:=hid hg;clear hg;by_cases hk1:k<1
   ·have hik:i+1+k<s.size:=by omega
    have ek:=dn s (i+1+k) hik;have hbk:=iD s (i+1+k);have hcc:c<262144:=by have h:=Nat.pow_le_pow_right (show 0<64 by omega) (show k+1<=3 by omega);omega
    have hst:jZ s (2-1-k) (i+1+k) c=if i+1+k<s.size/\128<=bt s (i+1+k)/\bt s (i+1+k)<=191 then jZ s (2-1-(k+1)) (i+1+(k+1)) (c*64+(bt s (i+1+k)-128)) else none:=by rw [show 2-1-k=(2-1-(k+1))+1 by omega,jZ];rfl
    obtain ⟨bk,hbe⟩:∃ bk,bt s (i+1+k)=bk:=⟨_,rfl⟩;rw [hbe] at ek hbk hst;have HST:=hid hst;clear hst hbe;by_cases hgd:128<=bk/\bk<=191
    ·have hor:=G8 c bk hcc hgd.1 hgd.2;have HR2:Hid (jZ s (2-1-(k+1)) (i+1+(k+1)) (c*64+(bk-128))=R):=by
      show _=_;rw [<- HG.out,HST.out,if_pos ⟨hik,hgd⟩]
     have hcn:c*64+(bk-128)<64 ^ (k+1+1):=by rw [Nat.pow_succ];omega
     obtain ⟨cn,EL⟩:∃ cn,c*64+(bk-128)=cn:=⟨_,rfl⟩;rw [EL] at hor HR2 hcn;have HCN:=hid hcn;obtain ⟨g1,g2⟩:=hgd;clear hc hcn EL HST HG;go_wp2
     go_round
     case rel=>exact ⟨k+1,cn,by omega,HCN.out,by go_num,rfl,HR2.out⟩
     case measure=>simp [intOf];omega
    ·have HR2:Hid (R=none):=by
      show _=_;rw [<- HG.out,HST.out,if_neg (fun h=>hgd h.2)]
     have hgd:bk<128\/191<bk:=by omega
     clear hc HST HG;rcases hgd with hgd | hgd
     all_goals
      go_wp2
      go_ret2
      exact ⟨by rw [HR2.out];rfl,_,rfl⟩
   ·obtain rfl:k=1:=by omega
    have HR2:Hid (R=some c):=by show _=_;rw [<- HG.out];rfl
    clear hc HG hk1;go_wp2
    go_ret2
    exact ⟨by rw [HR2.out];rfl,_,rfl⟩
 ·have hc0:b0%16=c0:=hc0;rw [hc0] at a15;clear a31 a7;have HC0:=hid hc0;clear hc0;have q2:decide ((s.size:Int)-(i:Int)<3)=false:=by simp;omega
  have q1:decide ((i:Int)<0)=false:=by simp
  have q3:decide (b1<lo)=false:=by simp;omega
  have q4:decide (hi_<b1)=false:=by simp;omega
  go_enter Tryz.func153,Tryz.ntmps153;go_wp2_with (first | (go_at_call 192;refine (WD.out _).mono ?_;rintro e w1 ⟨rfl,rfl⟩) | (go_at_call 193;refine (SD.out _).mono ?_;rintro e w1 ⟨rfl,rfl⟩))
  go_quiet (fail)
  go_wp2
  go_loop [4,71] (fun c k=>Jz s i 3 R c k) (fun _ k=>3-(intOf k).toNat)
  case atStart=>exact R0.out
  case round=>
   clear R0 a15;obtain ⟨k,c,hk,hc,rfl,rfl,hg⟩:=hrel;have HG:=hid hg;clear hg;by_cases hk1:k<2
   ·have hik:i+1+k<s.size:=by omega
    have ek:=dn s (i+1+k) hik;have hbk:=iD s (i+1+k);have hcc:c<262144:=by have h:=Nat.pow_le_pow_right (show 0<64 by omega) (show k+1<=3 by omega);omega
    have hst:jZ s (3-1-k) (i+1+k) c=if i+1+k<s.size/\128<=bt s (i+1+k)/\bt s (i+1+k)<=191 then jZ s (3-1-(k+1)) (i+1+(k+1)) (c*64+(bt s (i+1+k)-128)) else none:=by rw [show 3-1-k=(3-1-(k+1))+1 by omega,jZ];rfl
    obtain ⟨bk,hbe⟩:∃ bk,bt s (i+1+k)=bk:=⟨_,rfl⟩;rw [hbe] at ek hbk hst;have HST:=hid hst;clear hst hbe;by_cases hgd:128<=bk/\bk<=191
    ·have hor:=G8 c bk hcc hgd.1 hgd.2;have HR2:Hid (jZ s (3-1-(k+1)) (i+1+(k+1)) (c*64+(bk-128))=R):=by
      show _=_;rw [<- HG.out,HST.out,if_pos ⟨hik,hgd⟩]
     have hcn:c*64+(bk-128)<64 ^ (k+1+1):=by rw [Nat.pow_succ];omega
     obtain ⟨cn,EL⟩:∃ cn,c*64+(bk-128)=cn:=⟨_,rfl⟩;rw [EL] at hor HR2 hcn;have HCN:=hid hcn;obtain ⟨g1,g2⟩:=hgd;clear hc hcn EL HST HG;go_wp2
     go_round
     case rel=>exact ⟨k+1,cn,by omega,HCN.out,by go_num,rfl,HR2.out⟩
     case measure=>simp [intOf];omega
    ·have HR2:Hid (R=none):=by
      show _=_;rw [<- HG.out,HST.out,if_neg (fun h=>hgd h.2)]
     have hgd:bk<128\/191<bk:=by omega
     clear hc HST HG;rcases hgd with hgd | hgd
     all_goals
      go_wp2
      go_ret2
      exact ⟨by rw [HR2.out];rfl,_,rfl⟩
   ·obtain rfl:k=2:=by omega
    have HR2:Hid (R=some c):=by show _=_;rw [<- HG.out];rfl
    clear hc HG hk1;go_wp2
    go_ret2
    exact ⟨by rw [HR2.out];rfl,_,rfl⟩
 ·have hc0:b0%8=c0:=hc0;rw [hc0] at a7;clear a31 a15;have HC0:=hid hc0;clear hc0;have q2:decide ((s.size:Int)-(i:Int)<4)=false:=by simp;omega
  have q1:decide ((i:Int)<0)=false:=by simp
  have q3:decide (b1<lo)=false:=by simp;omega
  have q4:decide (hi_<b1)=false:=by simp;omega
  go_enter Tryz.func153,Tryz.ntmps153;go_wp2_with (first | (go_at_call 192;refine (WD.out _).mono ?_;rintro e w1 ⟨rfl,rfl⟩) | (go_at_call 193;refine (SD.out _).mono ?_;rintro e w1 ⟨rfl,rfl⟩))
  go_quiet (fail)
  go_wp2
  go_loop [4,71] (fun c k=>Jz s i 4 R c k) (fun _ k=>4-(intOf k).toNat)
  case atStart=>exact R0.out
  case round=>
   clear R0 a7;obtain ⟨k,c,hk,hc,rfl,rfl,hg⟩:=hrel;have HG:=hid hg;clear hg;by_cases hk1:k<3
   ·have hik:i+1+k<s.size:=by omega
    have ek:=dn s (i+1+k) hik;have hbk:=iD s (i+1+k);have hcc:c<262144:=by have h:=Nat.pow_le_pow_right (show 0<64 by omega) (show k+1<=3 by omega);omega
    have hst:jZ s (4-1-k) (i+1+k) c=if i+1+k<s.size/\128<=bt s (i+1+k)/\bt s (i+1+k)<=191 then jZ s (4-1-(k+1)) (i+1+(k+1)) (c*64+(bt s (i+1+k)-128)) else none:=by rw [show 4-1-k=(4-1-(k+1))+1 by omega,jZ];rfl
    obtain ⟨bk,hbe⟩:∃ bk,bt s (i+1+k)=bk:=⟨_,rfl⟩;rw [hbe] at ek hbk hst;have HST:=hid hst;clear hst hbe;by_cases hgd:128<=bk/\bk<=191
    ·have hor:=G8 c bk hcc hgd.1 hgd.2;have HR2:Hid (jZ s (4-1-(k+1)) (i+1+(k+1)) (c*64+(bk-128))=R):=by
      show _=_;rw [<- HG.out,HST.out,if_pos ⟨hik,hgd⟩]
     have hcn:c*64+(bk-128)<64 ^ (k+1+1):=by rw [Nat.pow_succ];omega
     obtain ⟨cn,EL⟩:∃ cn,c*64+(bk-128)=cn:=⟨_,rfl⟩;rw [EL] at hor HR2 hcn;have HCN:=hid hcn;obtain ⟨g1,g2⟩:=hgd;clear hc hcn EL HST HG;go_wp2
     go_round
     case rel=>exact ⟨k+1,cn,by omega,HCN.out,by go_num,rfl,HR2.out⟩
     case measure=>simp [intOf];omega
    ·have HR2:Hid (R=none):=by
      show _=_;rw [<- HG.out,HST.out,if_neg (fun h=>hgd h.2)]
     have hgd:bk<128\/191<bk:=by omega
     clear hc HST HG;rcases hgd with hgd | hgd
     all_goals
      go_wp2
      go_ret2
      exact ⟨by rw [HR2.out];rfl,_,rfl⟩
   ·obtain rfl:k=3:=by omega
    have HR2:Hid (R=some c):=by show _=_;rw [<- HG.out];rfl
    clear hc HG hk1;go_wp2
    go_ret2
    exact ⟨by rw [HR2.out];rfl,_,rfl⟩
def Dr (v:jp5) (w:jp3) (e:Ending) (w':jp3):Prop:=e=.returned v/\∃ q,w'=w.drewN q
theorem G9 (s:ByteArray) (i:Nat) (w:jp3) (hs:s.size<=1000000000) (hi:i<s.size) : Calls Tryz.prog 153 #[.string s,.int .i64 (i:Int)] w (Dr (.tuple #[.int .i64 (Utf8.decode s i).1,.int .i64 (Utf8.decode s i).2]) w):=by
 have hb:=iD s i;have e0:=dn s i hi;have q1:decide ((i:Int)<0)=false:=by simp
 by_cases c1:bt s i<128
 ·rw [AU s i c1];obtain ⟨b0,hb0⟩:∃ b0,bt s i=b0:=⟨_,rfl⟩;rw [hb0] at e0 hb c1 ⊢;have hw:qC b0=1:=by unfold qC;rw [if_pos c1]
  have WD:=hid (fun w=>jU b0 w hb);rw [hw] at WD;clear hw hb0;go_enter Tryz.func153,Tryz.ntmps153;go_wp2_with ((go_at_call 192;refine (WD.out _).mono ?_;rintro e w1 ⟨rfl,rfl⟩))
  go_ret2
  exact ⟨rfl,0,rfl⟩
 by_cases c2:bt s i<194\/244<bt s i
 ·rw [IJ s i (by omega) c2];obtain ⟨b0,hb0⟩:∃ b0,bt s i=b0:=⟨_,rfl⟩;rw [hb0] at e0 hb c1 c2;have hw:qC b0=0:=by unfold qC;(repeat' split)<;>omega
  have WD:=hid (fun w=>jU b0 w hb);rw [hw] at WD;clear hw hb0 c2;go_enter Tryz.func153,Tryz.ntmps153;go_wp2_with ((go_at_call 192;refine (WD.out _).mono ?_;rintro e w1 ⟨rfl,rfl⟩))
  go_ret2
  exact ⟨rfl,0,rfl⟩
 have bad:∀ n:Nat,2<=n->n<=4->qC (bt s i)=n->(s.size<i+n\/bt s (i+1)<l9 (bt s i)\/oo (bt s i)<bt s (i+1)) ->
   Calls Tryz.prog 153 #[.string s,.int .i64 (i:Int)] w (Dr (.tuple #[.int .i64 65533,.int .i64 1]) w):=by
  intro n h2 h4 hw hbad;obtain ⟨b0,hb0⟩:∃ b0,bt s i=b0:=⟨_,rfl⟩;rw [hb0] at e0 hb hw hbad;have WD:=hid (fun w=>jU b0 w hb);rw [hw] at WD;have hn0:((n:Int)==0)=false:=by rw [beq_eq_false_iff_ne];omega
  have hn1:((n:Int)==1)=false:=by rw [beq_eq_false_iff_ne];omega
  by_cases hsz:s.size<i+n
  ·have q2:decide ((s.size:Int)-(i:Int)<(n:Int))=true:=by simp;omega
   clear hw hb0 hbad;go_enter Tryz.func153,Tryz.ntmps153;go_wp2_with ((go_at_call 192;refine (WD.out _).mono ?_;rintro e w1 ⟨rfl,rfl⟩))
   go_ret2
   exact ⟨rfl,0,rfl⟩
  ·have q2:decide ((s.size:Int)-(i:Int)<(n:Int))=false:=by simp;omega
   have hi1:i+1<s.size:=by omega
   have e1:=dn s (i+1) hi1;have SD:=hid (fun w=>qD b0 w hb);have hbad:bt s (i+1)<l9 b0\/oo b0<bt s (i+1):=by omega
   generalize l9 b0=lo at *;generalize oo b0=hi_ at *;generalize bt s (i+1)=b1 at *;clear hw hb0 hsz;rcases hbad with hbad | hbad
   all_goals
    go_enter Tryz.func153,Tryz.ntmps153;go_wp2_with (first | (go_at_call 192;refine (WD.out _).mono ?_;rintro e w1 ⟨rfl,rfl⟩) | (go_at_call 193;refine (SD.out _).mono ?_;rintro e w1 ⟨rfl,rfl⟩))
    all_goals
     go_ret2
     exact ⟨rfl,0,rfl⟩
 by_cases c3:bt s i<=223
 ·have hw:qC (bt s i)=2:=by unfold qC;(repeat' split)<;>omega
  by_cases hbd:s.size<i+2\/bt s (i+1)<l9 (bt s i)\/oo (bt s i)<bt s (i+1)
  ·have hd:Utf8.decode s i=(65533,1):=by
    refine (AX s i hi (by omega) c3).1 ?_;have hl:l9 (bt s i)=128:=by unfold l9;(repeat' split)<;>omega
    have hh:oo (bt s i)=191:=by unfold oo;(repeat' split)<;>omega
    unfold dH;rw [if_neg (by omega)];omega
   rw [hd];exact bad 2 (by omega) (by omega) hw hbd
  ·rw [Dw s i hi (by omega) c3];exact pF s i 2 _ w hs (by omega) (by omega) (by omega) hw rfl (by omega) (by omega)
 by_cases c4:bt s i<=239
 ·have hw:qC (bt s i)=3:=by unfold qC;(repeat' split)<;>omega
  obtain ⟨d1,d2⟩:=Dx s i hi (by omega) c4;by_cases hbd:s.size<i+3\/bt s (i+1)<l9 (bt s i)\/oo (bt s i)<bt s (i+1)
  ·rw [d1 (by omega)];exact bad 3 (by omega) (by omega) hw hbd
  ·rw [d2 (by omega) (by omega)];exact pF s i 3 _ w hs (by omega) (by omega) (by omega) hw rfl (by omega) (by omega)
 ·have hw:qC (bt s i)=4:=by unfold qC;(repeat' split)<;>omega
  obtain ⟨d1,d2⟩:=Dy s i hi (by omega) (by omega);by_cases hbd:s.size<i+4\/bt s (i+1)<l9 (bt s i)\/oo (bt s i)<bt s (i+1)
  ·rw [d1 (by omega)];exact bad 4 (by omega) (by omega) hw hbd
  ·rw [d2 (by omega) (by omega)];exact pF s i 4 _ w hs (by omega) (by omega) (by omega) hw rfl (by omega) (by omega)
def Uz (s:ByteArray) (V:Bool) (w:jp3) (vi:jp5) (wr:jp3):Prop:=∃ i f q:Nat,i<=s.size/\s.size<=i+f/\vi=.int .i64 i/\(oL s f i).all Lf=V/\wr=w.drewN q
theorem mZ (s:ByteArray) (w:jp3) (hs:s.size<=1000000000) : Calls Tryz.prog 115 #[.string s] w (Dr (.bool (lT s)) w):=by
 obtain ⟨V,hV⟩:∃ V,V=lT s:=⟨_,rfl⟩;rw [<- hV];have R0:Hid (Uz s V w (.int .i64 0) w):=⟨0,s.size,0,jmk _,by omega,rfl,by rw [hV];rfl,rfl⟩;clear hV;go_enter Tryz.func115,Tryz.ntmps115;go_wp2
 go_loopw [3] (fun i wr=>Uz s V w i wr) (fun i _=>s.size-(intOf i).toNat)
 case atStart=>exact R0.out
 case round=>
  clear R0;obtain ⟨i,f,q,hi,hf,rfl,hall,rfl⟩:=hrel;by_cases hlt:i<s.size
  ·have NX:=hid (G9 s i (w.drewN q) hs hlt);have hd:=tY s i hlt;have hp:=nD s i;have hc:(Utf8.decode s i).1<=1114111:=Jy s 1 i (Utf8.decode s i) (by rw [oL,if_pos hlt];simp);have hst:(Lf (Utf8.decode s i)&&(oL s (f-1) (i+(Utf8.decode s i).2)).all Lf)=V:=by
    rw [<- hall];obtain ⟨f',rfl⟩:∃ f',f=f'+1:=⟨f-1,by omega⟩;rw [oL,if_pos hlt];rfl
   have HST:=hid hst;clear hst hall;generalize Utf8.decode s i=d at *;obtain ⟨c,n⟩:=d;simp only at hd hp hc NX HST;have UN:=hid (fun w=>yQ c w hc);by_cases hA:c=65533/\n=1
   ·obtain ⟨rfl,rfl⟩:=hA;have HV:Hid (V=false):=by show V=false;rw [<- HST.out];rfl
    clear HST;go_wp2_with fail
    refine NX.out.mono ?_;rintro e w1 ⟨rfl,q1,rfl⟩;go_wp2;go_ret;exact ⟨by rw [HV.out];rfl,_,rfl⟩
   ·have hok:Lf (c,n)=!Lg c:=by
     unfold Lf Lg;rw [jm4];simp;omega
    have Qe:=hid hok;clear hok;have k1:((c:Int)==65533)=decide (c=65533):=by rw [jm4];simp;omega
    have k2:((n:Int)==1)=decide (n=1):=by rw [jm4];simp;omega
    by_cases I9:c=65533
    ·have hn1:n≠1:=fun h=>hA ⟨I9,h⟩
     have l1:((c:Int)==65533)=true:=by rw [k1];simpa using I9
     have l2:((n:Int)==1)=false:=by rw [k2];simpa using hn1
     clear hn1;cases hu:Lg c
     all_goals
      rw [hu] at UN Qe;clear hA k1 k2 hu I9;go_wp2_with fail
      refine NX.out.mono ?_;rintro e w1 ⟨rfl,q1,rfl⟩;go_wp2_with fail
      refine (UN.out _).mono ?_;rintro e w1 ⟨rfl,rfl⟩;go_wp2
     ·go_roundw;case rel=>exact ⟨i+n,f-1,q+q1,hd,by omega,by go_num,by rw [<- HST.out,Qe.out];simp,rfl⟩
      case measure=>simp [intOf];omega
     ·go_ret;exact ⟨by rw [<- HST.out,Qe.out];rfl,_,rfl⟩
    ·have l1:((c:Int)==65533)=false:=by rw [k1];simpa using I9
     cases hu:Lg c
     all_goals
      rw [hu] at UN Qe;clear hA k1 k2 hu I9;go_wp2_with fail
      refine NX.out.mono ?_;rintro e w1 ⟨rfl,q1,rfl⟩;go_wp2_with fail
      refine (UN.out _).mono ?_;rintro e w1 ⟨rfl,rfl⟩;go_wp2
     ·go_roundw;case rel=>exact ⟨i+n,f-1,q+q1,hd,by omega,by go_num,by rw [<- HST.out,Qe.out];simp,rfl⟩
      case measure=>simp [intOf];omega
     ·go_ret;exact ⟨by rw [<- HST.out,Qe.out];rfl,_,rfl⟩
  ·have HV:Hid (V=true):=by
    show V=true;rw [<- hall,Du s f i hlt];rfl
   clear hall;go_wp2;go_ret;exact ⟨by rw [HV.out];rfl,q,rfl⟩
open Go.RowKit
theorem nE:∀ (l:List UInt8) (c:UInt8),decide (Lib.indexByte l c<0)=l.all fun x=>!decide (x=c)
 | [],c=>rfl
 | b::l,c=>by
  have ih:=nE l c;have hge:=Lib.indexByte_ge l c;rw [Lib.indexByte,List.all_cons,<- ih];by_cases h:b=c
  ·subst h;simp
  ·have h1:(b==c)=false:=by simpa using h
   rw [h1];by_cases h2:Lib.indexByte l c=-1
   ·simp [h2,h]
   ·have h3:(Lib.indexByte l c==-1)=false:=by simpa using h2
    simp only [Bool.false_eq_true,if_false,h3];rw [jm4];simp [h];omega
theorem Lh (s:ByteArray):decide (Lib.indexByte s.data.toList ((10:Int).toNat.toUInt8)<0)=jb1 s:=nE _ _
theorem EM (s:ByteArray):iK s=(lT s&&decide (Lib.indexByte s.data.toList ((10:Int).toNat.toUInt8)<0)):=by rw [Lh];rfl
theorem dJ (s:ByteArray):s.toList.isEmpty=aZ s:=by rw [Lib.toList_data,jm4];simp [aZ]
theorem OH (s:ByteArray):aZ s=decide (s.size=0):=by
 have h:s.data.toList.length=s.size:=by simp
 unfold aZ;rw [jm4,decide_eq_true_iff,decide_eq_true_iff,<- h,List.length_eq_zero_iff]
theorem Xa (s:ByteArray):aZ s=decide (s=ByteArray.empty):=by
 unfold aZ;rw [jm4,decide_eq_true_iff,decide_eq_true_iff];constructor
 ·intro h;exact ByteArray.ext (Array.ext' h)
 ·rintro rfl;rfl
theorem jm (s:ByteArray):s=ByteArray.empty\/(s≠ByteArray.empty/\0<s.size/\s.toList.isEmpty=false/\aZ s=false):=by
 by_cases h:s=ByteArray.empty
 ·exact .inl h
 ·have h1:aZ s=false:=by rw [Xa];simpa using h
  refine .inr ⟨h,?_,by rw [dJ];exact h1,h1⟩;rw [OH] at h1;have:s.size≠0:=by simpa using h1
  omega
theorem zW (s:ByteArray) (w:jp3) (hs:s.size<=1000000000) : Calls Tryz.prog 148 #[.string s] w (Dr (.bool (iK s)) w):=by
 have VA:=hid (mZ s w hs);have IB:=hid (fun w=>Tryz.strings_IndexByte s 10 w);have HL:=hid (EM s);generalize iK s=V at *;generalize Lib.indexByte s.data.toList ((10:Int).toNat.toUInt8)=n at *;cases hv:lT s with
 | false=>
  rw [hv] at VA HL;clear hv;go_enter Tryz.func148,Tryz.ntmps148;go_wp2_with fail
  refine VA.out.mono ?_;rintro e w1 ⟨rfl,q,rfl⟩;go_wp2;go_ret;exact ⟨by rw [HL.out];rfl,_,rfl⟩
 | true=>
  rw [hv] at VA HL;clear hv;go_enter Tryz.func148,Tryz.ntmps148;go_wp2_with fail
  refine VA.out.mono ?_;rintro e w1 ⟨rfl,q,rfl⟩;go_wp2_with fail
  refine (IB.out _).mono ?_;rintro e w1 ⟨rfl,rfl⟩;go_wp2;go_ret;exact ⟨by rw [HL.out];rfl,_,rfl⟩
theorem Mv (s:ByteArray) (w:jp3) (hs:s.size<=1000000000) : Calls Tryz.prog 93 #[.string s] w (Dr (.bool (iK s)) w):=by
 have VA:=hid (mZ s w hs);have IB:=hid (fun w=>Tryz.strings_IndexByte s 10 w);have HL:=hid (EM s);generalize iK s=V at *;generalize Lib.indexByte s.data.toList ((10:Int).toNat.toUInt8)=n at *;cases hv:lT s with
 | false=>
  rw [hv] at VA HL;clear hv;go_enter Tryz.func93,Tryz.ntmps93;go_wp2_with fail
  refine VA.out.mono ?_;rintro e w1 ⟨rfl,q,rfl⟩;go_wp2;go_ret;exact ⟨by rw [HL.out];rfl,_,rfl⟩
 | true=>
  rw [hv] at VA HL;clear hv;go_enter Tryz.func93,Tryz.ntmps93;go_wp2_with fail
  refine VA.out.mono ?_;rintro e w1 ⟨rfl,q,rfl⟩;go_wp2_with fail
  refine (IB.out _).mono ?_;rintro e w1 ⟨rfl,rfl⟩;go_wp2;go_ret;exact ⟨by rw [HL.out];rfl,_,rfl⟩
theorem Sj (s:ByteArray) (c:UInt8) (h:0<s.size):decide (s.data.toList.head?=some c)=decide (bt s 0=c.toNat):=by
 have h1:s.data.toList.head?=some s[0]:=by rw [<- fM s 0 h];exact List.head?_eq_getElem?
 rw [h1,<- dn s 0 h,jm4];simp [UInt8.toNat_inj]
theorem JA (s:ByteArray) (c:UInt8) (h:0<s.size):decide (s.data.toList.getLast?=some c)=decide (bt s (s.size-1)=c.toNat):=by
 have h1:s.data.toList.getLast?=some s[s.size-1]:=by rw [<- fM s (s.size-1) (by omega),List.getLast?_eq_getElem?];congr 1
 rw [h1,<- dn s (s.size-1) (by omega),jm4];simp [UInt8.toNat_inj]
theorem iY (s:ByteArray) (w:jp3) (hs:s.size<=1000000000) : Calls Tryz.prog 94 #[.string s] w fun e w'=>e=.returned (.bool (trimS s))/\w=w':=by
 rcases jm s with rfl | ⟨hne,hp,hie,hes⟩
 ·go_enter Tryz.func94,Tryz.ntmps94;go_wp2;go_ret;exact ⟨rfl,rfl⟩
 ·have hv:trimS s=(!decide (bt s 0=32)&&!decide (bt s (s.size-1)=32)):=by
   unfold trimS;unfold aZ at hes;rw [hes,Sj s 32 hp,JA s 32 hp];rfl
  rw [hv];have e0:=dn s 0 hp;have e1:=dn s (s.size-1) (by omega);generalize bt s 0=b0 at *;generalize bt s (s.size-1)=b1 at *;have hsub:((s.size:Int)-1).toNat=s.size-1:=by omega
  clear hv hes;go_enter Tryz.func94,Tryz.ntmps94;go_wp2;all_goals
   go_ret;refine ⟨DK ?_,rfl⟩
   (try simp only [beq_iff_eq,beq_eq_false_iff_ne,ne_eq,bne_iff_ne,bne_eq_false_iff_eq] at *)
   rw [jm4];simp
   (try omega)
theorem oF (s:ByteArray) (w:jp3) (hs:s.size<=1000000000) : Calls Tryz.prog 167 #[.string s] w (Dr (.bool (lX s)) w):=by
 rcases jm s with rfl | ⟨hne,hp,hie,hes⟩
 ·go_enter Tryz.func167,Tryz.ntmps167;go_wp2;go_ret;exact ⟨rfl,0,rfl⟩
 ·have hv:lX s=(lT s&&decide (bt s (s.size-1)=10)):=by
   unfold lX;rw [hes,JA s 10 hp];rfl
  rw [hv];have e1:=dn s (s.size-1) (by omega);have VA:=hid (mZ s w hs);generalize bt s (s.size-1)=b1 at *;generalize lT s=V at *;have hsub:((s.size:Int)-1).toNat=s.size-1:=by omega
  clear hv hes;cases V
  all_goals
   go_enter Tryz.func167,Tryz.ntmps167;go_wp2_with fail
   refine VA.out.mono ?_;rintro e w1 ⟨rfl,q,rfl⟩;go_wp2;all_goals
    go_ret;refine ⟨DK ?_,_,rfl⟩
    (try simp only [beq_iff_eq,beq_eq_false_iff_ne,ne_eq,bne_iff_ne,bne_eq_false_iff_eq] at *)
    (try rw [jm4])
    (try simp)
    (try omega)
open Go.RowKit
def dN (v:jp5) (w:jp3) (e:Ending) (w':jp3):Prop:=e=.returned v/\Below w.heap.size w w'
theorem uY {α:Type} (l:List α):(((l.length:Nat):Int)==0)=l.isEmpty:=by
 cases l with
 | nil=>rfl
 | cons x l=>simp;omega
theorem oN (a:At) (ac ap:Option Addr) (cc cp:Nat) (w:jp3) (hc:a.cls.length<=maxLen) (hp:a.aJ.length<=maxLen) : Calls Tryz.prog 165 #[.agg #[.string a.id,.slice ac a.cls.length cc,.slice ap a.aJ.length cp]] w (dN (.bool a.none) w):=by
 obtain ⟨id,cls,aJ⟩:=a;dsimp only at hc hp ⊢;have h1:=dJ id;have h2:=uY cls;have h3:=uY aJ;have HV:Hid (At.none ⟨id,cls,aJ⟩=(aZ id&&cls.isEmpty&&aJ.isEmpty)):=rfl;generalize At.none ⟨id,cls,aJ⟩=V at *;generalize aZ id=b1 at *;generalize cls.isEmpty=b2 at *;generalize aJ.isEmpty=b3 at *;cases b1<;>cases b2<;>cases b3
 all_goals
  go_enter Tryz.func165,Tryz.ntmps165;go_wp2;go_ret;exact ⟨by rw [HV.out];rfl,(jm0 _ _).alloc (jm1 _) _⟩
def UC (n:Int) (ks:List Int) (vi:jp5):Prop:=∃ k:Nat,k<=ks.length/\vi=.int .i64 k/\(ks.take k).contains n=false
theorem kJ (n:Int) (ks:List Int) (g cap:Nat) (w:jp3) (hl:ks.length<=1000) (hc:∀ j k,ks[j]?=some k->w.cell? ⟨g,j,none⟩=some (.int .i64 k)) : Calls Tryz.prog 161 #[.int .i64 n,.slice (some ⟨g,0,none⟩) ks.length cap] w fun e w'=>e=.returned (.bool (ks.contains n))/\w=w':=by
 have HC:=hid hc;have R0:Hid (UC n ks (.int .i64 0)):=⟨0,jmk _,rfl,by simp⟩;obtain ⟨V,hV⟩:∃ V,V=ks.contains n:=⟨_,rfl⟩;rw [<- hV];have HV:=hid hV;clear hc hV;go_enter Tryz.func161,Tryz.ntmps161;go_wp2
 go_loop [9] (fun i=>UC n ks i) (fun i=>ks.length-(intOf i).toNat)
 case atStart=>exact R0.out
 case round=>
  clear R0;obtain ⟨k,hk,rfl,hno⟩:=hrel;have HN:=hid hno;clear hno;by_cases hlt:k<ks.length
  ·obtain ⟨x,hx⟩:∃ x,ks[k]?=some x:=⟨_,jlz hlt⟩;have hcell:=HC.out k x hx;have HT:Hid ((ks.take (k+1)).contains n=((ks.take k).contains n||(n==x))):=by
    show _=_;rw [jn4,hx,jm4];simp
   have HX:=hid hx;clear hx;cases hnx:(n==x)
   ·rw [hnx] at HT;go_wp2
    go_round
    case rel=>exact ⟨k+1,by omega,by go_num,by rw [HT.out,HN.out];rfl⟩
    case measure=>simp [intOf];omega
   ·have HE:Hid (V=true):=by
     show V=true;rw [HV.out,List.contains_iff_mem];have:n=x:=by simpa using hnx
     rw [this];exact jmq HX.out
    go_wp2;go_ret;exact ⟨by rw [HE.out];rfl,rfl⟩
  ·have HE:Hid (V=false):=by
    show V=false;rw [HV.out];have:=HN.out
    rwa [List.take_of_length_le (by omega)] at this
   go_wp2;go_ret;exact ⟨by rw [HE.out];rfl,rfl⟩
def UF (l:List aj) (ks:List Int) (vi:jp5):Prop:=∃ k:Nat,k<=l.length/\vi=.int .i64 k/\aj.eB ks (l.take k)=false
theorem aj.EN (ks:List Int):∀ (l m:List aj),aj.eB ks (l++m)=(aj.eB ks l||aj.eB ks m)
 | [],m=>by rw [List.nil_append,aj.eB];rfl
 | x::l,m=>by rw [jmz,aj.eB,aj.eB,aj.EN ks l m,Bool.or_assoc]
theorem aj.Li (ks:List Int) {l:List aj} {k:Nat} {x:aj} (hx:l[k]?=some x):aj.eB ks (l.take (k+1))=(aj.eB ks (l.take k)||x.OG ks):=by rw [jn4,hx,aj.EN,Option.toList_some,aj.eB,aj.eB,Bool.or_false]
theorem aj.EO (ks:List Int):∀ {l:List aj} {k:Nat} {x:aj},l[k]?=some x->x.OG ks=true->aj.eB ks l=true
 | [],_,_,h,_=>by simp at h
 | y::l,0,x,h,hx=>by simp at h;subst h;rw [aj.eB,hx];rfl
 | y::l,k+1,x,h,hx=>by rw [aj.eB,aj.EO ks (l:=l) (k:=k) (by simpa using h) hx,Bool.or_true]
theorem sD (n:Nat):∀ (l:List aj) (ok:Nat->Prop) (v:jp5) (ks:List Int) (g cap:Nat) (w:jp3),aj.aR l<=n->Rd ok w (aX l) [v]->ks.length<=1000->(∀ j k,ks[j]?=some k->w.cell? ⟨g,j,none⟩=some (.int .i64 k)) -> Calls Tryz.prog 203 #[v,.slice (some ⟨g,0,none⟩) ks.length cap] w fun e w'=>e=.returned (.bool (aj.eB ks l))/\w=w':=by
 induction n using Nat.strongRecOn with
 | _ n ih=>
  intro l ok v ks g cap w hn hrd hks hc;obtain ⟨a,cp,hv,hs⟩:=Rd.aB hrd;obtain rfl:v=.slice a l.length cp:=by simpa using hv
  have hcap:l.length<=cp:=by simpa using hs.le
  have hmx:=hs.max;unfold maxLen at hmx;have HS:=hid hs;have IH:=hid ih;have HC:=hid hc;have OO:=hid (fun n=>kJ n ks g cap w hks hc);have R0:Hid (UF l ks (.int .i64 0)):=⟨0,jmk _,rfl,by rw [List.take_zero,aj.eB]⟩;obtain ⟨V,hV⟩:∃ V,V=aj.eB ks l:=⟨_,rfl⟩;rw [<- hV];have HV:=hid hV;clear hs hv hrd ih hc hV;go_enter Tryz.func203,Tryz.ntmps203;go_wp2
  go_loop [8] (fun i=>UF l ks i) (fun i=>l.length-(intOf i).toNat)
  case atStart=>exact R0.out
  case round=>
   clear R0;obtain ⟨k,hk,rfl,hno⟩:=hrel;have HN:=hid hno;clear hno;by_cases hlt:k<l.length
   ·obtain ⟨x,hx⟩:∃ x,l[k]?=some x:=⟨_,jlz hlt⟩;have hsn:=aj.Li ks hx;have HG:=hid (aj.EO ks hx);obtain ⟨kd,t,d,ti,at_,ar,ci,kids⟩:=x;obtain ⟨b,off,vc,vp,va,vi,vk,rfl,hok,hbl,hcl,hR⟩:=fJ HS.out hx;obtain ⟨c0,-,-,-,-,-,-,-,-,c9⟩:=hcl;have hsz:=aj.bg l k _ hx;rw [aj.sz] at hsz;have AK:=hid (IH.out (aj.aR kids) (by omega) kids ok vk ks g cap w (jm1 _) hR.kids hks HC.out);obtain ⟨ak,nk,ck,rfl⟩:=Rd.om hR.kids;have OK:=hid (OO.out kd);have HX:Hid ((aj.mk kd t d ti at_ ar ci kids).OG ks=(ks.contains kd||aj.eB ks kids)):=by show _=_;rw [aj.OG]
    have AZ:=hid hsn;clear hx hR hsn;cases h1:ks.contains kd with
    | true=>
     rw [h1] at OK HX;have HE:Hid (V=true):=by show V=true;rw [HV.out];exact HG.out (by rw [HX.out];rfl)
     clear h1;go_wp2_with fail
     refine OK.out.mono ?_;rintro e w1 ⟨rfl,rfl⟩;go_wp2;go_ret;exact ⟨by rw [HE.out];rfl,rfl⟩
    | false=>
     rw [h1] at OK HX;cases h2:aj.eB ks kids with
     | true=>
      rw [h2] at AK HX;have HE:Hid (V=true):=by show V=true;rw [HV.out];exact HG.out (by rw [HX.out];rfl)
      clear h1 h2;go_wp2_with fail
      refine OK.out.mono ?_;rintro e w1 ⟨rfl,rfl⟩;go_wp2_with fail
      refine AK.out.mono ?_;rintro e w1 ⟨rfl,rfl⟩;go_wp2;go_ret;exact ⟨by rw [HE.out];rfl,rfl⟩
     | false=>
      rw [h2] at AK HX;clear h1 h2;go_wp2_with fail
      refine OK.out.mono ?_;rintro e w1 ⟨rfl,rfl⟩;go_wp2_with fail
      refine AK.out.mono ?_;rintro e w1 ⟨rfl,rfl⟩;go_wp2
      go_round
      case rel=>exact ⟨k+1,by omega,by go_num,by rw [AZ.out,HN.out,HX.out];rfl⟩
      case measure=>simp [intOf];omega
   ·have HE:Hid (V=false):=by
     show V=false;rw [HV.out];have:=HN.out
     rwa [List.take_of_length_le (by omega)] at this
    go_wp2;go_ret;exact ⟨by rw [HE.out];rfl,rfl⟩
open Go.RowKit
theorem mF (l:List ByteArray) (x:ByteArray):hasB l.reverse x=hasB l x:=by rw [jm4,EP,EP,List.mem_reverse]
theorem eO.cleared {w:jp3} {b n:Nat} {S:List ByteArray} (h:eO w b n S) (ty:TypeId) : ∃ w',(Builtin.clear_ #[127] ty #[.map (some b)]).run Tryz.prog w=.ok (.tuple #[]) w'/\eO w' b 0 []/\w.grownBy w' (some b):=by
 obtain ⟨D,⟨es,clock,hb,F,hsz,hD⟩,hat⟩:=h;have hr:∃ clock',(Builtin.clear_ #[127] ty #[.map (some b)]).run Tryz.prog w=.ok (.tuple #[]) { w with heap:=w.heap.setIfInBounds b (.map #[] clock') }:=by refine ⟨clock,?_⟩;simp [Builtin.clear_,run_underlying Tryz.underlying127,MapKept.run_getObj_map hb,MapKept.run_setObj_map _ hb,Result.andThen]
 obtain ⟨clock',hrun⟩:=hr;have hs:=MapKept.heap_set (o':=.map #[] clock') hb;refine ⟨_,hrun,⟨.map [],⟨#[],clock',hs.1,⟨by simp,MapKept.stamped_empty clock',by simp⟩,jm1 _,rfl⟩,fun s=>rfl⟩,rfl,rfl,rfl,?_,fun i _ hne=>hs.2 i (fun e=>hne (by rw [e]))⟩;simp
def LZ (T:TypeId) (p:Nat) (cs:List jp5) (w:jp3) (mb n:Nat) (S:List ByteArray) (wr:jp3):Prop:=CB T p cs wr/\eO wr mb n S/\Below w.heap.size w wr/\w.heap.size<=mb/\p≠mb/\w.heap.size<=p
theorem LZ.put {T:TypeId} {p:Nat} {cs:List jp5} {w:jp3} {mb n n':Nat} {S S':List ByteArray} {wr w':jp3} (h:LZ T p cs w mb n S wr) (hg:wr.grownBy w' (some mb)) (hs:eO w' mb n' S'):LZ T p cs w mb n' S' w':=
 ⟨(hg.block p h.1.lt (fun e=>h.2.2.2.2.1 (by injection e))).trans h.1,hs,h.2.2.1.grown hg h.2.2.1.size (fun j hj=>by cases hj;exact h.2.2.2.1),h.2.2.2⟩
theorem LZ.alloc {T:TypeId} {p:Nat} {cs:List jp5} {w:jp3} {mb n:Nat} {S:List ByteArray} {wr:jp3} (h:LZ T p cs w mb n S wr) (o:Obj):LZ T p cs w mb n S (wr.alloc o):=
 ⟨h.1.below ((jm0 _ _).alloc (jm1 _) _),h.2.1.below ((jm0 _ _).alloc (jm1 _) _),h.2.2.1.alloc h.2.2.1.size _,h.2.2.2⟩
theorem LZ.drewN {T:TypeId} {p:Nat} {cs:List jp5} {w:jp3} {mb n:Nat} {S:List ByteArray} {wr:jp3} (h:LZ T p cs w mb n S wr) (q:Nat):LZ T p cs w mb n S (wr.drewN q):=
 ⟨h.1,h.2.1,dO h.2.2.1 q,h.2.2.2⟩
def OI (T:TypeId) (p:Nat) (cs:List jp5) (w:jp3) (mb:Nat) (l:List ByteArray) (E:Nat) (vi:jp5) (wr:jp3):Prop:=
 ∃ k:Nat,k<=l.length/\vi=.int .i64 k/\LZ T p cs w mb k (l.take k).reverse wr/\fA (l.take k) (l.drop k)=E
def OJ (T:TypeId) (p:Nat) (cs:List jp5) (w:jp3) (mb:Nat) (l:List Pr) (E:Nat) (vi:jp5) (wr:jp3):Prop:=
 ∃ k:Nat,k<=l.length/\vi=.int .i64 k/\LZ T p cs w mb k ((l.take k).map Pr.key).reverse wr/\dL ((l.take k).map Pr.key) (l.drop k)=E
theorem gM (a:At) (ac ap:Option Addr) (cc cp:Nat) (w:jp3) (h:AtR (·<w.heap.size) w a (.slice ac a.cls.length cc) (.slice ap a.aJ.length cp)) (hs:a.short) : Calls Tryz.prog 95 #[.agg #[.string a.id,.slice ac a.cls.length cc,.slice ap a.aJ.length cp]] w (dN (.int .i64 (a.err:Nat)) w):=by
 obtain ⟨sc,sp,si,sca,spa⟩:=hs;obtain ⟨id,cls,aJ⟩:=a;dsimp only at sc sp si sca spa h ⊢;obtain ⟨a1,c1,hv1,hs1⟩:=Rd.aB h.cls;obtain ⟨rfl,rfl⟩:a1=ac/\c1=cc:=by simp at hv1;exact ⟨hv1.1.symm,hv1.2.symm⟩
 obtain ⟨a2,c2,hv2,hs2⟩:=Rd.aB h.aJ;obtain ⟨rfl,rfl⟩:a2=ap/\c2=cp:=by simp at hv2;exact ⟨hv2.1.symm,hv2.2.symm⟩
 have l1:cls.length<=c1:=by simpa using hs1.le
 have l2:aJ.length<=c2:=by simpa using hs2.le
 have m1:=hs1.max;have m2:=hs2.max;unfold maxLen at m1 m2;have H1:=hid hs1;have H2:=hid hs2;have SC:=hid sca;have SP:=hid spa;have NI:=hid (fun w=>LX id w (by omega));have HE:Hid (At.err ⟨id,cls,aJ⟩=if aZ id=false/\jG id=false then 6 else if fA [] cls≠0 then fA [] cls else if dL [] aJ≠0 then dL [] aJ else if 32<cls.length\/32<aJ.length then 3 else 0):=rfl;obtain ⟨V,hV⟩:∃ V,V=At.err ⟨id,cls,aJ⟩:=⟨_,rfl⟩;rw [<- hV] at HE ⊢;clear hV sca spa hs1 hs2 hv1 hv2 h;by_cases hbad:aZ id=false/\jG id=false
 ·have HV:Hid (V=6):=by show V=6;rw [HE.out,if_pos hbad]
  rw [hbad.2] at NI;have hie:id.toList.isEmpty=false:=by rw [dJ];exact hbad.1
  clear hbad HE;go_enter Tryz.func95,Tryz.ntmps95;go_wp2_with (go_at_call 52;refine (NI.out _).mono ?_;rintro e w1 ⟨rfl,rfl⟩)
  go_ret;exact ⟨by rw [HV.out];rfl,(jm0 _ _).alloc (jm1 _) _⟩
 have hgood:id.toList.isEmpty=true\/(id.toList.isEmpty=false/\jG id=true):=by
  rw [dJ];cases h1:aZ id
  ·right;refine ⟨rfl,?_⟩;cases h2:jG id
   ·exact absurd ⟨h1,h2⟩ hbad
   ·rfl
  ·left;rfl
 have HE2:Hid (V=if fA [] cls≠0 then fA [] cls else if dL [] aJ≠0 then dL [] aJ else if 32<cls.length\/32<aJ.length then 3 else 0):=by show V=_;rw [HE.out,if_neg hbad]
 obtain ⟨w1,hw1⟩:∃ w1,w1=(w.alloc (.cells #[.string id,.slice a1 cls.length c1,.slice a2 aJ.length c2] 45)).alloc (.map #[] 0):=⟨_,rfl⟩;have R0:Hid (OI 45 w.heap.size [.string id,.slice a1 cls.length c1,.slice a2 aJ.length c2] w (w.heap.size+1) cls (fA [] cls) (.int .i64 0) w1):=by
  refine ⟨0,jmk _,rfl,⟨?_,?_,?_,by omega,by omega,jm1 _⟩,rfl⟩
  ·rw [hw1];exact (CB.new _ _ w).below ((jm0 _ _).alloc (jm1 _) _)
  ·rw [hw1];have:=eO.made (w.alloc (.cells #[.string id,.slice a1 cls.length c1,.slice a2 aJ.length c2] 45))
   rwa [World.size_alloc] at this
  ·rw [hw1];exact ((jm0 _ _).alloc (jm1 _) _).alloc (by simp) _
 have HW1:=hid hw1;obtain ⟨E1,hE1⟩:∃ E1,E1=fA [] cls:=⟨_,rfl⟩;obtain ⟨E2,hE2⟩:∃ E2,E2=dL [] aJ:=⟨_,rfl⟩;rw [<- hE1] at HE2 R0;rw [<- hE2] at HE2;have jh9:=hid hE2;clear hbad HE hw1 hE1 hE2;have hmm:=@run_makeMap Tryz.prog;rcases hgood with hie | ⟨hie,hnm⟩
 case' inl=>
  clear NI;go_enter Tryz.func95,Tryz.ntmps95;go_wp2;rw [<- HW1.out];clear hmm
 case' inr=>
  rw [hnm] at NI;clear hnm;go_enter Tryz.func95,Tryz.ntmps95;go_wp2_with (go_at_call 52;refine (NI.out _).mono ?_;rintro e w1 ⟨rfl,rfl⟩)
  rw [<- HW1.out];clear hmm
 all_goals
  go_loopw [21] (fun i wr=>OI 45 w.heap.size [.string id,.slice a1 cls.length c1,.slice a2 aJ.length c2] w (w.heap.size+1) cls E1 i wr) (fun i _=>cls.length-(intOf i).toNat)
  case atStart=>exact R0.out
  case round=>
   clear R0;obtain ⟨k,hk,rfl,qK,bJ⟩:=hrel;have Qz:=hid qK;by_cases hlt:k<cls.length
   ·obtain ⟨x,hx⟩:∃ x,cls[k]?=some x:=⟨_,jlz hlt⟩;obtain ⟨b,off,rfl,-,-,c0⟩:=lq H1.out hx;have c0:wr.cell? ⟨b,off+k,none⟩=some (.string x):=by rw [qK.2.2.1.cell (p:=⟨b,off+k,none⟩) (ze c0)];exact c0
    have hxs:=SC.out x (jmq hx);have CN:=hid (fun w=>LX x w (by omega));have hlk:=qK.2.1.look x (by unfold maxLen;omega);obtain ⟨w',hup,hS',hg⟩:=qK.2.1.put x (by unfold maxLen;omega) (by unfold maxLen;omega);have YZ:=hid (qK.put hg hS');rw [mF] at hlk;rw [Qw cls k x hx,fA] at bJ;have zn:Hid (cls.take (k+1)=cls.take k++[x]):=by show _=_;rw [jn4,hx];rfl
    have fO:=hid bJ;clear bJ hS' hg qK hx;cases hn:jG x with
    | false=>
     rw [hn] at CN;have HV:Hid (V=6):=by show V=6;have:=fO.out;rw [if_pos hn] at this;rw [HE2.out,<- this];rfl
     clear hn hup;go_wp2_with fail
     refine (CN.out _).mono ?_;rintro e w3 ⟨rfl,rfl⟩;go_wp2;go_ret;exact ⟨by rw [HV.out];rfl,Qz.out.2.2.1⟩
    | true=>
     rw [hn] at CN;cases hb:hasB (cls.take k) x with
     | true=>
      rw [hb] at hlk;have HV:Hid (V=7):=by show V=7;have:=fO.out;rw [if_neg (by rw [hn];decide),if_pos hb] at this;rw [HE2.out,<- this];rfl
      clear hn hb hup;go_wp2_with fail
      refine (CN.out _).mono ?_;rintro e w3 ⟨rfl,rfl⟩;go_wp2;go_ret;exact ⟨by rw [HV.out];rfl,Qz.out.2.2.1⟩
     | false=>
      rw [hb] at hlk;have Tv:Hid (fA (cls.take (k+1)) (cls.drop (k+1))=E1):=by show _=_;have:=fO.out;rw [if_neg (by rw [hn];decide),if_neg (by rw [hb];decide)] at this;rw [zn.out];exact this
      clear hn hb;go_wp2_with fail
      refine (CN.out _).mono ?_;rintro e w3 ⟨rfl,rfl⟩;go_wp2;go_roundw;case rel=>exact ⟨k+1,by omega,by go_num,by rw [zn.out,List.reverse_append];exact YZ.out,Tv.out⟩
      case measure=>simp [intOf];omega
   ·obtain rfl:k=cls.length:=by omega
    have Sk:Hid (E1=0):=by show E1=0;rw [List.drop_length,fA] at bJ;exact bJ.symm
    obtain ⟨w2,hcl,hS2,hg2⟩:∃ w2,(∀ ty,(Builtin.clear_ #[127] ty #[.map (some (w.heap.size+1))]).run Tryz.prog wr=.ok (.tuple #[]) w2)/\eO w2 (w.heap.size+1) 0 []/\wr.grownBy w2 (some (w.heap.size+1)):=by obtain ⟨w2,h1,h2,h3⟩:=qK.2.1.cleared 0;exact ⟨w2,fun ty=>h1,h2,h3⟩
    have R2:Hid (OJ 45 w.heap.size [.string id,.slice a1 cls.length c1,.slice a2 aJ.length c2] w (w.heap.size+1) aJ E2 (.int .i64 0) w2):=⟨0,jmk _,rfl,qK.put hg2 hS2,jh9.out.symm⟩;have p2:w2.cell? ⟨w.heap.size,2,none⟩=some (.slice a2 aJ.length c2):=(qK.put hg2 hS2).1.cell 2 _ rfl;clear bJ qK Qz hS2 hg2 hk hlt;go_wp2
    go_loopw [38] (fun i wr=>OJ 45 w.heap.size [.string id,.slice a1 cls.length c1,.slice a2 aJ.length c2] w (w.heap.size+1) aJ E2 i wr) (fun i _=>aJ.length-(intOf i).toNat)
    case atStart=>exact R2.out
    case round=>
     clear R2 hcl p2;obtain ⟨k,hk,rfl,qK,bJ⟩:=hrel;have Qz:=hid qK;by_cases hlt:k<aJ.length
     ·obtain ⟨x,hx⟩:∃ x,aJ[k]?=some x:=⟨_,jlz hlt⟩;obtain ⟨b,off,rfl,-,-,c0,c1'⟩:=oJ H2.out hx;have c0:wr.cell? ⟨b,off+k*2,none⟩=some (.string x.key):=by rw [qK.2.2.1.cell (p:=⟨b,off+k*2,none⟩) (ze c0)];exact c0
      have c1':wr.cell? ⟨b,off+k*2+1,none⟩=some (.string x.val):=by rw [qK.2.2.1.cell (p:=⟨b,off+k*2+1,none⟩) (ze c1')];exact c1'
      have hxs:=SP.out x (jmq hx);have HX:=hid hx;have fO:Hid (dL ((aJ.take k).map Pr.key) (x::aJ.drop (k+1))=E2):=by show _=_;rw [<- Qw aJ k x hx];exact bJ
      obtain ⟨key,val⟩:=x;dsimp only at c0 c1' hxs;have CN:=hid (fun w=>LX key w (by omega));have CV:=hid (fun w=>zW val w (by omega));have zn:Hid ((aJ.take (k+1)).map Pr.key=(aJ.take k).map Pr.key++[key]):=by show _=_;rw [jn4,HX.out];simp
      obtain ⟨wi,hwi⟩:∃ wi,wi=wr.alloc (.cells #[.string key,.string val] 61):=⟨_,rfl⟩;have Cz:=qK.alloc (.cells #[.string key,.string val] 61);rw [<- hwi] at Cz;have i0:wi.cell? ⟨wr.heap.size,0,none⟩=some (.string key):=by rw [hwi];exact FV wr [.string key,.string val] _ 0 _ rfl
      have i1:wi.cell? ⟨wr.heap.size,1,none⟩=some (.string val):=by rw [hwi];exact FV wr [.string key,.string val] _ 1 _ rfl
      have P7:=hid Cz;clear bJ qK hx;cases hn:jG key with
      | false=>
       rw [hn] at CN;have HV:Hid (V=6):=by show V=6;have:=fO.out;rw [dL,if_pos hn] at this;rw [HE2.out,Sk.out,<- this];rfl
       clear hn;go_upto_region 17 with (fail)
       rw [<- hwi];clear hwi Cz;go_wp2_with fail
       refine (CN.out _).mono ?_;rintro e w3 ⟨rfl,rfl⟩;go_wp2;go_ret;exact ⟨by rw [HV.out];rfl,P7.out.2.2.1⟩
      | true=>
       rw [hn] at CN;cases hln:iK val with
       | false=>
        rw [hln] at CV;have HV:Hid (V=17):=by show V=17;have:=fO.out;rw [dL,if_neg (by rw [hn];decide),if_pos hln] at this;rw [HE2.out,Sk.out,<- this];rfl
        clear hn hln;go_upto_region 17 with (fail)
        rw [<- hwi];clear hwi Cz;go_wp2_with fail
        refine (CN.out _).mono ?_;rintro e w3 ⟨rfl,rfl⟩;go_wp2_with fail
        refine (CV.out _).mono ?_;rintro e w3 ⟨rfl,q,rfl⟩;go_wp2;go_ret;exact ⟨by rw [HV.out];rfl,dO P7.out.2.2.1 q⟩
       | true=>
        rw [hln] at CV;have YX:=hid (fun q=>(Cz.drewN q).2.1.look key (by unfold maxLen;omega));have Vs:=hid (fun q=>(Cz.drewN q).2.1.put key (by unfold maxLen;omega) (by unfold maxLen;omega));cases hb:hasB ((aJ.take k).map Pr.key) key with
        | true=>
         have HV:Hid (V=7):=by show V=7;have:=fO.out;rw [dL,if_neg (by rw [hn];decide),if_neg (by rw [hln];decide),if_pos hb] at this;rw [HE2.out,Sk.out,<- this];rfl
         have HB:=hid hb;clear hn hln hb;go_upto_region 17 with (fail)
         rw [<- hwi];clear hwi Cz;go_wp2_with fail
         refine (CN.out _).mono ?_;rintro e w3 ⟨rfl,rfl⟩;go_wp2_with fail
         refine (CV.out _).mono ?_;rintro e w3 ⟨rfl,q,rfl⟩;have hlk:=YX.out q;rw [mF,HB.out] at hlk;go_wp2;go_ret;exact ⟨by rw [HV.out];rfl,dO P7.out.2.2.1 q⟩
        | false=>
         have Tv:Hid (dL ((aJ.take (k+1)).map Pr.key) (aJ.drop (k+1))=E2):=by show _=_;have:=fO.out;rw [dL,if_neg (by rw [hn];decide),if_neg (by rw [hln];decide),if_neg (by rw [hb];decide)] at this;rw [zn.out];exact this
         have HB:=hid hb;clear hn hln hb;go_upto_region 17 with (fail)
         rw [<- hwi];clear hwi Cz;go_wp2_with fail
         refine (CN.out _).mono ?_;rintro e w3 ⟨rfl,rfl⟩;go_wp2_with fail
         refine (CV.out _).mono ?_;rintro e w3 ⟨rfl,q,rfl⟩;have hlk:=YX.out q;rw [mF,HB.out] at hlk;obtain ⟨w',hup,hS',hg⟩:=Vs.out q;have YZ:=hid ((P7.out.drewN q).put hg hS');clear hS' hg;go_wp2;go_roundw;case rel=>exact ⟨k+1,by omega,by go_num,by rw [zn.out,List.reverse_append];exact YZ.out,Tv.out⟩
         case measure=>simp [intOf];omega
     ·obtain rfl:k=aJ.length:=by omega
      have HV:Hid (V=if 32<cls.length\/32<aJ.length then 3 else 0):=by show V=_;rw [List.drop_length,dL] at bJ;rw [HE2.out,Sk.out,<- bJ];rfl
      have p1:wr.cell? ⟨w.heap.size,1,none⟩=some (.slice a1 cls.length c1):=qK.1.cell 1 _ rfl;have p2:wr.cell? ⟨w.heap.size,2,none⟩=some (.slice a2 aJ.length c2):=qK.1.cell 2 _ rfl;clear bJ qK hk hlt;by_cases h1:32<cls.length
      ·have q1:decide ((32:Int)<(cls.length:Int))=true:=by simp;omega
       go_wp2;go_ret;exact ⟨by rw [HV.out,if_pos (.inl h1)];rfl,Qz.out.2.2.1⟩
      ·have q1:decide ((32:Int)<(cls.length:Int))=false:=by simp;omega
       by_cases h2:32<aJ.length
       ·have q2:decide ((32:Int)<(aJ.length:Int))=true:=by simp;omega
        go_wp2;go_ret;exact ⟨by rw [HV.out,if_pos (.inr h2)];rfl,Qz.out.2.2.1⟩
       ·have q2:decide ((32:Int)<(aJ.length:Int))=false:=by simp;omega
        go_wp2;go_ret;exact ⟨by rw [HV.out,if_neg (by omega)];rfl,Qz.out.2.2.1⟩
open Go.RowKit
theorem aj.ER (l:List aj) (k:Nat) (x:aj) (h:l[k]?=some x):aj.aR (l.take k)+x.sz<=aj.aR l:=by
 have h1:aj.aR (l.take (k+1))<=aj.aR l:=by have:=aj.pQ (l.take (k+1)) (l.drop (k+1));rw [List.take_append_drop] at this;omega
 rw [aj.uO h] at h1;exact h1
theorem ah.Lj (l:List ah) (k:Nat) (x:ah) (h:l[k]?=some x):ah.bU (l.take k)+x.all<=ah.bU l:=by
 have h1:ah.bU (l.take (k+1))<=ah.bU l:=by have:=ah.ES (l.take (k+1)) (l.drop (k+1));rw [List.take_append_drop] at this;omega
 rw [ah.kY h] at h1;exact h1
theorem ah.Sm (x:ah):1<=x.all:=by cases x;rw [ah.all];omega
theorem ah.JB:∀ (l:List ah),l.length<=ah.bU l
 | []=>by simp
 | x::l=>by have:=ah.JB l;have:=x.Sm;rw [ah.bU];simp;omega
theorem jhj {P:Program} {f:FuncId} {args:Array jp5} {w:jp3} {a n:Nat} {v:jp5} (h:Calls P f args (w.drewN (a+n)) fun e w'=>e=.returned v/\w.drewN (a+n)=w') : Calls P f args (w.drewN (a+n)) fun e w''=>e=.returned v/\∃ m,w''=w.drewN (a+m):=h.mono fun _ _ ⟨he,hm⟩=>⟨he,n,hm.symm⟩
theorem jhk {P:Program} {f:FuncId} {args:Array jp5} {w:jp3} {a n:Nat} {v:jp5} (h:Calls P f args (w.drewN (a+n)) (Dr v (w.drewN (a+n)))) : Calls P f args (w.drewN (a+n)) fun e w''=>e=.returned v/\∃ m,w''=w.drewN (a+m):=h.mono fun _ _ ⟨he,m,hm⟩=>⟨he,n+m,by rw [hm,World.drewN_drewN,Nat.add_assoc]⟩
def UG (l:List aj) (vn vi:jp5):Prop:=∃ k n:Nat,k<=l.length/\vi=.int .i64 k/\vn=.int .i64 n/\n=aj.aR (l.take k)+(l.length-k)
def UH (l:List ah) (w:jp3) (vn vi:jp5) (wr:jp3):Prop:=∃ k n q:Nat,k<=l.length/\vi=.int .i64 k/\vn=.int .i64 n/\n=ah.bU (l.take k)+(l.length-k)/\wr=w.drewN q
theorem xq (n:Nat):∀ (l:List aj) (ok:Nat->Prop) (v:jp5) (w:jp3),aj.aR l<=n->n<=1000000->Rd ok w (aX l) [v] -> Calls Tryz.prog 186 #[v] w fun e w'=>e=.returned (.int .i64 (aj.aR l:Nat))/\w=w':=by
 induction n using Nat.strongRecOn with
 | _ n ih=>
  intro l ok v w hn hnm h1;obtain ⟨a,cap,hv,hs⟩:=Rd.aB h1;obtain rfl:v=.slice a l.length cap:=by simpa using hv
  have hcap:l.length<=cap:=by simpa using hs.le
  have hmx:=hs.max;unfold maxLen at hmx;have HS:=hid hs;have IH:=hid ih;have R0:Hid (UG l (.int .i64 (l.length:Int)) (.int .i64 0)):=⟨0,l.length,jmk _,rfl,rfl,by rw [List.take_zero,aj.aR];simp⟩;clear hs hv h1 ih;go_enter Tryz.func186,Tryz.ntmps186;go_wp2
  go_loop [3,9] (fun vn vi=>UG l vn vi) (fun _ i=>l.length-(intOf i).toNat)
  case atStart=>exact R0.out
  case round=>
   clear R0;obtain ⟨k,m,hk,rfl,rfl,hm⟩:=hrel;by_cases hlt:k<l.length
   ·obtain ⟨x,hx⟩:∃ x,l[k]?=some x:=⟨_,jlz hlt⟩;have hsz:=aj.ER l k _ hx;have hsn:=aj.uO hx;obtain ⟨kd,t,d,ti,at_,ar,ci,ks⟩:=x;obtain ⟨g,off,vc,vp,va,vi,vk,rfl,hok,hbl,hc,hR⟩:=fJ HS.out hx;rw [aj.sz] at hsz hsn;obtain ⟨ak,nk,ck,rfl⟩:=Rd.om hR.kids;have p9:=hc.c9;have CK:=hid (IH.out (aj.aR ks) (by omega) ks ok (.slice ak nk ck) w (jm1 _) (by omega) hR.kids);have HM:Hid (m+aj.aR ks=aj.aR (l.take (k+1))+(l.length-(k+1))):=by show _=_;omega
    have hlm:l.length-k<=1000000:=by have:=aj.cZ l;omega
    have hmb:m+aj.aR ks<=3000000:=by omega
    generalize aj.aR ks=K at *;clear hc hR hx hm hsn hsz hlm;go_wp2_with fail
    refine CK.out.mono ?_;rintro e w1 ⟨rfl,rfl⟩;go_wp2
    go_round
    case rel=>exact ⟨k+1,m+K,by omega,by go_num,by go_num,HM.out⟩
    case measure=>simp [intOf];omega
   ·obtain rfl:k=l.length:=by omega
    have hv:m=aj.aR l:=by rw [hm,List.take_length];omega
    have HV:=hid hv;clear hv hm;go_wp2;go_ret;exact ⟨by rw [<- HV.out];rfl,rfl⟩
theorem rU (n:Nat):∀ (l:List ah) (ok:Nat->Prop) (v:jp5) (w:jp3),ah.bU l<=n->n<=1000000->Rd ok w (fC l) [v] -> Calls Tryz.prog 146 #[v] w (Dr (.int .i64 (ah.bU l:Nat)) w):=by
 induction n using Nat.strongRecOn with
 | _ n ih=>
  intro l ok v w hn hnm h1;obtain ⟨a,cap,hv,hs⟩:=Rd.aB h1;obtain rfl:v=.slice a l.length cap:=by simpa using hv
  have hcap:l.length<=cap:=by simpa using hs.le
  have hmx:=hs.max;unfold maxLen at hmx;have HS:=hid hs;have IH:=hid ih;have R0:Hid (UH l w (.int .i64 (l.length:Int)) (.int .i64 0) w):=⟨0,l.length,0,jmk _,rfl,rfl,by rw [List.take_zero,ah.bU];simp,rfl⟩;clear hs hv h1 ih;go_enter Tryz.func146,Tryz.ntmps146;go_wp2
  go_loopw [3,9] (fun vn vi wr=>UH l w vn vi wr) (fun _ i _=>l.length-(intOf i).toNat)
  case atStart=>exact R0.out
  case round=>
   clear R0;obtain ⟨k,m,q,hk,rfl,rfl,hm,rfl⟩:=hrel;by_cases hlt:k<l.length
   ·obtain ⟨x,hx⟩:∃ x,l[k]?=some x:=⟨_,jlz hlt⟩;have hsz:=ah.Lj l k _ hx;have hsn:=ah.kY hx;obtain ⟨kd,lv,i,t,d,ti,at_,li,ks⟩:=x;obtain ⟨g,off,vc,vp,vl,vk,rfl,hok,hbl,hc,hR⟩:=I7 HS.out hx;rw [ah.all] at hsz hsn;obtain ⟨ak,nk,ck,rfl⟩:=Rd.om hR.kids;obtain ⟨al,nl,cl,rfl⟩:=Rd.om hR.line;have p9:=hc.c9;have Kg:=hc.c10;have hst:∀ q,zG ok ok w (w.drewN q):=fun q b h _=>⟨h,rfl⟩
    have CL:=hid (fun q=>xq _ li ok (.slice al nl cl) (w.drewN q) (jm1 _) (by omega) (Rd.keep (hst q) _ _ hR.line));have CK:=hid (fun q=>IH.out (ah.bU ks) (by omega) ks ok (.slice ak nk ck) (w.drewN q) (jm1 _) (by omega) (Rd.keep (hst q) _ _ hR.kids));have HM:Hid (m+(aj.aR li+ah.bU ks)=ah.bU (l.take (k+1))+(l.length-(k+1))):=by show _=_;omega
    have hlm:l.length-k<=1000000:=by have:=ah.JB l;omega
    have hmb:m+(aj.aR li+ah.bU ks)<=3000000:=by omega
    generalize aj.aR li=L at *;generalize ah.bU ks=K at *;have s1:IntKind.i64.wrap ((L:Int)+(K:Int))=(L:Int)+(K:Int):=je (by omega) (by omega);have s2:IntKind.i64.wrap ((m:Int)+((L:Int)+(K:Int)))=(m:Int)+((L:Int)+(K:Int)):=je (by omega) (by omega);clear hc hR hx hm hsn hsz hlm hst;go_wp2_with fail
    go_quiet ((first | (go_at_call 186;exact jhj (CL.out _)) | (go_at_call 146;exact jhk (CK.out _))))
    clear s1 s2;go_wp2;go_roundw;case rel=>exact ⟨k+1,m+(L+K),_,by omega,by go_num,by go_num,HM.out,rfl⟩
    case measure=>simp [intOf];omega
   ·obtain rfl:k=l.length:=by omega
    have hv:m=ah.bU l:=by rw [hm,List.take_length];omega
    have HV:=hid hv;clear hv hm;go_wp2;go_ret;exact ⟨by rw [<- HV.out];rfl,q,rfl⟩
open Go.RowKit
theorem Kh (l:List ah) (am ab:Option Addr) (nm cm nb cb:Nat) (w:jp3) (hn:ah.bU l<=1000000) (h:Rd (·<w.heap.size) w (fC l) [.slice ab nb cb]) : Calls Tryz.prog 92 #[.agg #[.slice am nm cm,.slice ab nb cb]] w (dN (.int .i64 (ah.bU l:Nat)) w):=by
 have hb0:Below w.heap.size w (w.alloc (.cells #[.slice am nm cm,.slice ab nb cb] 26)):=(jm0 _ _).alloc (jm1 _) _;have SZ:=hid (rU _ l _ _ _ (jm1 _) hn (h.up hb0));have HB:=hid hb0;generalize ah.bU l=N at *;clear h hb0;go_enter Tryz.func92,Tryz.ntmps92;go_wp2_with fail
 refine SZ.out.mono ?_;rintro e w1 ⟨rfl,q,rfl⟩;go_wp2;go_ret;exact ⟨rfl,dO HB.out q⟩
def bX:List UInt8->List UInt8->Option (List UInt8 × List UInt8)
 | [],_=>none
 | c::l,acc=>
  if c=34 then some (acc,l)
  else if c=92 then (match l with
   | []=>none
   | d::l'=>if d=34\/d=92 then bX l' (acc++[d]) else none)
  else bX l (acc++[c])
def dB (l:List UInt8):ByteArray:=⟨l.toArray⟩
def eF (l:List UInt8):Option (ByteArray × List UInt8):=
 if l.head?=some 34 then (match bX l.tail [] with
  | none=>none
  | some (v,r)=>if iK (dB v)=true then some (dB v,r) else none)
 else if jG (dB (l.takeWhile iJ))=true then some (dB (l.takeWhile iJ),l.dropWhile iJ) else none
def tq (l:List UInt8):List UInt8:=if l.head?=some 35\/l.head?=some 46 then l.tail else l
def keysOf (a:At):List ByteArray:=a.aJ.map Pr.key
def dF (a:At) (l:List UInt8):Option (At × List UInt8):=
 if jG (dB ((tq l).takeWhile iJ))=false then none
 else if l.head?=some 35 then (if aZ a.id=false then none else some (⟨dB ((tq l).takeWhile iJ),a.cls,a.aJ⟩,(tq l).dropWhile iJ))
 else if l.head?=some 46 then (if hasB a.cls (dB ((tq l).takeWhile iJ))=true then none else if 32<=a.cls.length then none
  else some (⟨a.id,a.cls++[dB ((tq l).takeWhile iJ)],a.aJ⟩,(tq l).dropWhile iJ))
 else if ((tq l).dropWhile iJ).head?=some 61 then (match eF ((tq l).dropWhile iJ).tail with
  | none=>none
  | some (v,r)=>if hasB (keysOf a) (dB ((tq l).takeWhile iJ))=true then none else if 32<=a.aJ.length then none
   else some (⟨a.id,a.cls,a.aJ++[⟨dB ((tq l).takeWhile iJ),v⟩]⟩,r))
 else none
def isSp (c:UInt8):Bool:=decide (c=32)
def iM (l:List UInt8):List UInt8:=l.dropWhile isSp
def xV:Nat->At->Bool->List UInt8->Option (At × List UInt8)
 | 0,_,_,_=>none
 | f+1,a,sep,l=>
  if l.head?=some 125 then some (a,l.tail)
  else if l=[]\/sep=false then none
  else (match dF a l with
   | none=>none
   | some (a',l')=>xV f a' (decide (l'.head?=some 32)) (iM l'))
def q22 (l:List UInt8):Option (At × List UInt8):=
 if l.head?=some 123 then xV l.length ⟨dB [],[],[]⟩ true (iM l.tail) else none
theorem xu (p:UInt8->Bool):∀ (n r:List UInt8),(∀ c∈n,p c=true)->(∀ c,r.head?=some c->p c=false)->(n++r).takeWhile p=n/\(n++r).dropWhile p=r
 | [],r,_,h2=>by
  cases r with
  | nil=>exact ⟨rfl,rfl⟩
  | cons c r=>exact ⟨by simp [h2 c rfl],by simp [h2 c rfl]⟩
 | c::n,r,h1,h2=>by
  have hc:=h1 c (by simp);obtain ⟨k1,k2⟩:=xu p n r (fun x hx=>h1 x (by simp [hx])) h2;rw [jmz,List.takeWhile_cons,List.dropWhile_cons,hc];simp [k1,k2]
theorem gu (p:UInt8->Bool) (l:List UInt8):(∀ c∈l.takeWhile p,p c=true)/\(∀ c,(l.dropWhile p).head?=some c->p c=false):=by
 induction l with
 | nil=>simp
 | cons x l ih=>
  rw [List.takeWhile_cons,List.dropWhile_cons];cases h:p x with
  | true=>
   refine ⟨fun c hc=>?_,fun c hc=>ih.2 c (by simpa using hc)⟩;simp at hc;rcases hc with rfl | hc
   ·exact h
   ·exact ih.1 c hc
  | false=>exact ⟨by simp,fun c hc=>by simp at hc;rw [<- hc];exact h⟩
theorem uD (p:UInt8->Bool) (l r':List UInt8) (h:r'.head?=(l.dropWhile p).head?):(l.takeWhile p++r').takeWhile p=l.takeWhile p/\(l.takeWhile p++r').dropWhile p=r':=
 xu p _ _ (gu p l).1 (fun c hc=>(gu p l).2 c (by rw [<- h];exact hc))
theorem pG:∀ (n:Nat) (l acc v r:List UInt8),l.length<=n->bX l acc=some (v,r)->∃ p,l=p++r/\p≠[]/\∀ r',bX (p++r') acc=some (v,r')
 | n,[],acc,v,r,_,h=>by rw [bX] at h;cases h
 | 0,c::l,acc,v,r,hn,h=>by simp at hn
 | n+1,c::l,acc,v,r,hn,h=>by
  simp only [List.length_cons] at hn;rw [bX.eq_def] at h;simp only at h;by_cases h1:c=34
  ·rw [if_pos h1] at h;injection h with h
   injection h with h2 h3
   subst h2 h3;exact ⟨[c],rfl,by simp,fun r'=>by rw [List.singleton_append,bX.eq_def];simp only;rw [if_pos h1]⟩
  ·rw [if_neg h1] at h;by_cases h2:c=92
   ·rw [if_pos h2] at h;cases l with
    | nil=>cases h
    | cons d l'=>
     simp only at h;by_cases h3:d=34\/d=92
     ·rw [if_pos h3] at h;obtain ⟨p,e1,e2,e3⟩:=pG n l' (acc++[d]) v r (by simp at hn;omega) h;refine ⟨c::d::p,by rw [e1];rfl,by simp,fun r'=>?_⟩;rw [jmz,jmz,bX.eq_def];simp only;rw [if_neg h1,if_pos h2,if_pos h3];exact e3 r'
     ·rw [if_neg h3] at h;cases h
   ·rw [if_neg h2] at h;obtain ⟨p,e1,e2,e3⟩:=pG n l (acc++[c]) v r (by omega) h;refine ⟨c::p,by rw [e1];rfl,by simp,fun r'=>?_⟩;rw [jmz,bX.eq_def];simp only;rw [if_neg h1,if_neg h2];exact e3 r'
theorem nR (l:List UInt8) (h:jG (dB l)=true):l≠[]:=by rintro rfl;revert h;decide
theorem He (l r:List UInt8) (v:ByteArray) (h:eF l=some (v,r)):∃ p,l=p++r/\p≠[]/\∀ r',r'.head?=r.head?->eF (p++r')=some (v,r'):=by
 unfold eF at h;by_cases h1:l.head?=some 34
 ·rw [if_pos h1] at h;cases l with
  | nil=>simp at h1
  | cons c l=>
   obtain rfl:c=34:=by simpa using h1
   rw [List.tail_cons] at h;cases hq:bX l [] with
   | none=>rw [hq] at h;cases h
   | some z=>
    obtain ⟨v1,r1⟩:=z;rw [hq] at h;simp only at h;by_cases h2:iK (dB v1)=true
    ·rw [if_pos h2] at h;injection h with h
     injection h with h3 h4
     subst h3 h4;obtain ⟨p,e1,e2,e3⟩:=pG _ l [] v1 r1 (jm1 _) hq;refine ⟨34::p,by rw [e1];rfl,by simp,fun r' _=>?_⟩;unfold eF;rw [jmz,List.head?_cons,if_pos rfl,List.tail_cons,e3 r'];simp only;rw [if_pos h2]
    ·rw [if_neg h2] at h;cases h
 ·rw [if_neg h1] at h;by_cases h2:jG (dB (l.takeWhile iJ))=true
  ·rw [if_pos h2] at h;injection h with h
   injection h with h3 h4
   subst h3 h4;refine ⟨l.takeWhile iJ,(List.takeWhile_append_dropWhile).symm,nR _ h2,fun r' hr=>?_⟩;obtain ⟨k1,k2⟩:=uD iJ l r' hr;unfold eF;have hh:(l.takeWhile iJ++r').head?=l.head?:=by
    cases l with
    | nil=>exact absurd rfl (nR _ h2)
    | cons c l=>
     have hne:=nR _ h2;rw [List.takeWhile_cons] at hne ⊢;cases hc:iJ c with
     | true=>simp
     | false=>rw [hc] at hne;simp at hne
   rw [hh,if_neg h1,k1,k2,if_pos h2]
  ·rw [if_neg h2] at h;cases h
theorem ng (p r r':List UInt8) (h:p≠[]):(p++r).head?=(p++r').head?:=by
 cases p with
 | nil=>exact absurd rfl h
 | cons c p=>rfl
theorem zZ (a a':At) (l r:List UInt8) (h:dF a l=some (a',r)):∃ p,l=p++r/\p≠[]/\∀ r',r'.head?=r.head?->dF a (p++r')=some (a',r'):=by
 unfold dF at h;by_cases h1:jG (dB ((tq l).takeWhile iJ))=false
 ·rw [if_pos h1] at h;cases h
 rw [if_neg h1] at h;have h1':jG (dB ((tq l).takeWhile iJ))=true:=by simpa using h1
 have hN:=nR _ h1';by_cases h2:l.head?=some 35
 ·rw [if_pos h2] at h;by_cases h3:aZ a.id=false
  ·rw [if_pos h3] at h;cases h
  rw [if_neg h3] at h;injection h with h
  injection h with e1 e2
  cases l with
  | nil=>simp at h2
  | cons c l=>
   obtain rfl:c=35:=by simpa using h2
   have hA:∀ x,tq (35::x)=x:=fun x=>by simp [tq]
   rw [hA] at e1 e2 h1 hN;refine ⟨35::l.takeWhile iJ,?_,by simp,fun r' hr=>?_⟩
   ·rw [<- e2,jmz,List.takeWhile_append_dropWhile]
   ·obtain ⟨k1,k2⟩:=uD iJ l r' (by rw [hr,e2]);unfold dF;rw [jmz,hA,k1,k2,if_neg h1,List.head?_cons,if_pos rfl,if_neg h3,e1]
 rw [if_neg h2] at h;by_cases h3:l.head?=some 46
 ·rw [if_pos h3] at h;by_cases h4:hasB a.cls (dB ((tq l).takeWhile iJ))=true
  ·rw [if_pos h4] at h;cases h
  rw [if_neg h4] at h;by_cases h5:32<=a.cls.length
  ·rw [if_pos h5] at h;cases h
  rw [if_neg h5] at h;injection h with h
  injection h with e1 e2
  cases l with
  | nil=>simp at h3
  | cons c l=>
   obtain rfl:c=46:=by simpa using h3
   have hA:∀ x,tq (46::x)=x:=fun x=>by simp [tq]
   rw [hA] at e1 e2 h1 hN h4;refine ⟨46::l.takeWhile iJ,?_,by simp,fun r' hr=>?_⟩
   ·rw [<- e2,jmz,List.takeWhile_append_dropWhile]
   ·obtain ⟨k1,k2⟩:=uD iJ l r' (by rw [hr,e2]);unfold dF;rw [jmz,hA,k1,k2,if_neg h1,List.head?_cons,if_neg (by decide),if_pos rfl,if_neg h4,if_neg h5,e1]
 rw [if_neg h3] at h;have hA:tq l=l:=by unfold tq;rw [if_neg (by rintro (h | h);exact h2 h;exact h3 h)]
 rw [hA] at h h1 hN;by_cases h4:(l.dropWhile iJ).head?=some 61
 ·rw [if_pos h4] at h;cases hv:eF (l.dropWhile iJ).tail with
  | none=>rw [hv] at h;cases h
  | some z=>
   obtain ⟨v,r1⟩:=z;rw [hv] at h;simp only at h;by_cases h5:hasB (keysOf a) (dB (l.takeWhile iJ))=true
   ·rw [if_pos h5] at h;cases h
   rw [if_neg h5] at h;by_cases h6:32<=a.aJ.length
   ·rw [if_pos h6] at h;cases h
   rw [if_neg h6] at h;injection h with h
   injection h with e1 e2
   subst e2;obtain ⟨p1,q1,q2,q3⟩:=He _ _ _ hv;have hD:l.dropWhile iJ=61::(l.dropWhile iJ).tail:=by
    cases hd:l.dropWhile iJ with
    | nil=>rw [hd] at h4;simp at h4
    | cons c m=>
     rw [hd] at h4;obtain rfl:c=61:=by simpa using h4
     rfl
   refine ⟨l.takeWhile iJ++61::p1,?_,by simp,fun r' hr=>?_⟩
   ·rw [List.append_assoc,jmz,<- q1,<- hD,List.takeWhile_append_dropWhile]
   ·have hrr:(l.takeWhile iJ++61::p1)++r'=l.takeWhile iJ++(61::(p1++r')):=by simp
    obtain ⟨k1,k2⟩:=uD iJ l (61::(p1++r')) (by rw [h4];rfl);have hh:(l.takeWhile iJ++(61::(p1++r'))).head?=l.head?:=by
     conv=>rhs;rw [<- List.takeWhile_append_dropWhile (p:=iJ) (l:=l)]
     exact ng _ _ _ hN
    have hA':tq (l.takeWhile iJ++(61::(p1++r')))=l.takeWhile iJ++(61::(p1++r')):=by unfold tq;rw [hh,if_neg (by rintro (h | h);exact h2 h;exact h3 h)]
    unfold dF;rw [hrr,hA',k1,k2,hh,if_neg h1,if_neg h2,if_neg h3,List.head?_cons,if_pos rfl,List.tail_cons,q3 r' hr];simp only;rw [if_neg h5,if_neg h6,e1]
 ·rw [if_neg h4] at h;cases h
theorem xw:∀ (f:Nat) (a a':At) (sep:Bool) (l r:List UInt8),xV f a sep l=some (a',r) -> ∃ p,l=p++125::r/\∀ r' f',p.length+r'.length+1<=f'->xV f' a sep (p++125::r')=some (a',r')
 | 0,a,a',sep,l,r,h=>by rw [xV] at h;cases h
 | f+1,a,a',sep,l,r,h=>by
  rw [xV] at h;by_cases h1:l.head?=some 125
  ·rw [if_pos h1] at h;injection h with h
   injection h with e1 e2
   subst e1 e2;cases l with
   | nil=>simp at h1
   | cons c l=>
    obtain rfl:c=125:=by simpa using h1
    refine ⟨[],rfl,fun r' f' hf=>?_⟩;obtain ⟨g,rfl⟩:∃ g,f'=g+1:=⟨f'-1,by omega⟩;rw [xV,List.nil_append,List.head?_cons,if_pos rfl];rfl
  rw [if_neg h1] at h;by_cases h2:l=[]\/sep=false
  ·rw [if_pos h2] at h;cases h
  rw [if_neg h2] at h;cases hi:dF a l with
  | none=>rw [hi] at h;cases h
  | some z=>
   obtain ⟨a1,l1⟩:=z;rw [hi] at h;simp only at h;obtain ⟨p1,q1,q2,q3⟩:=zZ _ _ _ _ hi;obtain ⟨p2,k1,k2⟩:=xw f a1 a' _ _ r h;have hl1:l1=l1.takeWhile isSp++(p2++125::r):=by rw [<- k1];exact (List.takeWhile_append_dropWhile).symm
   have hh:∀ r',(l1.takeWhile isSp++(p2++125::r')).head?=l1.head?:=fun r'=>by
    conv=>rhs;rw [hl1]
    have e:∀ x,l1.takeWhile isSp++(p2++125::x)=(l1.takeWhile isSp++p2++[125])++x:=fun x=>by simp
    rw [e,e];exact ng _ _ _ (by simp)
   have hs:∀ r',iM (l1.takeWhile isSp++(p2++125::r'))=p2++125::r':=fun r'=>by
    refine (xu isSp _ _ (gu isSp l1).1 (fun c hc=>(gu isSp l1).2 c ?_)).2;rw [<- hc];show (iM l1).head?=_;rw [k1];have e:∀ x,p2++125::x=(p2++[125])++x:=fun x=>by simp
    rw [e r',e r];exact ng _ _ _ (by simp)
   refine ⟨p1++l1.takeWhile isSp++p2,?_,fun r' f' hf=>?_⟩
   ·rw [q1,List.append_assoc,List.append_assoc,<- hl1]
   ·obtain ⟨g,rfl⟩:∃ g,f'=g+1:=⟨f'-1,by omega⟩;have hp1:0<p1.length:=List.length_pos_iff.2 q2;have e:p1++l1.takeWhile isSp++p2++125::r'=p1++(l1.takeWhile isSp++(p2++125::r')):=by simp
    have hh2:(p1++(l1.takeWhile isSp++(p2++125::r'))).head?=l.head?:=by rw [q1];exact ng _ _ _ q2
    rw [e,xV,hh2,if_neg h1,if_neg,q3 _ (hh r')]
    ·simp only;rw [hh r',hs r'];refine k2 r' g ?_;simp only [List.length_append] at hf;omega
    ·rintro (h3 | h3)
     ·simp at h3
     ·exact h2 (.inr h3)
def fG (l:List UInt8):List UInt8:=(l.reverse.dropWhile isSp).reverse
theorem Ab (p r:List UInt8) (hr:∀ c∈r,isSp c=true) (hp:∀ c,p.getLast?=some c->isSp c=false):fG (p++r)=p:=by unfold fG;rw [List.reverse_append,(xu isSp r.reverse p.reverse (fun c hc=>hr c (by simpa using hc)) (fun c hc=>hp c (by simpa using hc))).2,List.reverse_reverse]
theorem nu (l:List UInt8):∃ r,l=fG l++r/\∀ c∈r,isSp c=true:=by refine ⟨(l.reverse.takeWhile isSp).reverse,?_,fun c hc=>(gu isSp l.reverse).1 c (by simpa using hc)⟩;unfold fG;rw [<- List.reverse_append,List.takeWhile_append_dropWhile,List.reverse_reverse]
theorem xA (l r:List UInt8) (a:At) (h:q22 l=some (a,r)):∃ p,l=p++125::r/\∀ r',q22 (p++125::r')=some (a,r'):=by
 unfold q22 at h;by_cases h1:l.head?=some 123
 ·rw [if_pos h1] at h;cases l with
  | nil=>simp at h1
  | cons c l=>
   obtain rfl:c=123:=by simpa using h1
   rw [List.tail_cons] at h;obtain ⟨p2,k1,k2⟩:=xw _ _ _ _ _ _ h;have hl:l=l.takeWhile isSp++(p2++125::r):=by rw [<- k1];exact (List.takeWhile_append_dropWhile).symm
   have hs:∀ r',iM (l.takeWhile isSp++(p2++125::r'))=p2++125::r':=fun r'=>by
    refine (xu isSp _ _ (gu isSp l).1 (fun c hc=>(gu isSp l).2 c ?_)).2;rw [<- hc];show (iM l).head?=_;rw [k1];have e:∀ x,p2++125::x=(p2++[125])++x:=fun x=>by simp
    rw [e r',e r];exact ng _ _ _ (by simp)
   refine ⟨123::(l.takeWhile isSp++p2),?_,fun r'=>?_⟩
   ·conv=>lhs;rw [hl]
    simp
   ·have e:123::(l.takeWhile isSp++p2)++125::r'=123::(l.takeWhile isSp++(p2++125::r')):=by simp
    unfold q22;rw [e,List.head?_cons,if_pos rfl,List.tail_cons,hs r'];refine k2 r' _ ?_;simp;omega
 ·rw [if_neg h1] at h;cases h
def Hf (l:List UInt8):Bool:=match q22 l with
 | none=>false
 | some (_,r)=>r.all isSp
def Hg (l:List UInt8):Bool:=match q22 (fG l) with
 | none=>false
 | some (_,r)=>r.isEmpty
theorem yR (l:List UInt8):Hf l=Hg l:=by
 rw [jm4];unfold Hf Hg;constructor
 ·intro h;cases hp:q22 l with
  | none=>rw [hp] at h;cases h
  | some z=>
   obtain ⟨a,r⟩:=z;rw [hp] at h;simp only at h;obtain ⟨p,e1,e2⟩:=xA _ _ _ hp;have ht:fG l=p++[125]:=by
    have e:l=(p++[125])++r:=by rw [e1];simp
    rw [e];refine Ab _ _ (List.all_eq_true.1 h) (fun c hc=>?_);simp at hc;subst hc;decide
   rw [ht,e2 []];rfl
 ·intro h;cases hp:q22 (fG l) with
  | none=>rw [hp] at h;cases h
  | some z=>
   obtain ⟨a,r⟩:=z;rw [hp] at h;simp only at h;obtain rfl:r=[]:=by simpa using h
   obtain ⟨p,e1,e2⟩:=xA _ _ _ hp;obtain ⟨sp,k1,k2⟩:=nu l;have e:l=p++125::sp:=by rw [k1,e1];simp
   rw [e,e2 sp];exact List.all_eq_true.2 k2
def ny (l:List UInt8):Bool:=
 decide ((l.takeWhile isSp).length<=3)&&decide ((iM l).take 2=[36,36])&&((iM ((iM l).drop 2)).isEmpty||Hf (iM ((iM l).drop 2)))
def xB:List UInt8->List UInt8->List (List UInt8)
 | _,[]=>[]
 | acc,c::l=>if c=10 then acc::xB [] l else xB (acc++[c]) l
def qp (s:ByteArray):Bool:=(xB [] s.data.toList).any ny
open Go.RowKit
open Go.RowKit
open Go.RowKit
open Go.RowKit
end Go.Proofs.YtkfnkeflalcphaaGreatDoor

