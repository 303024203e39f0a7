/- Plain part: the errors of layer 4: what is not well-formed in inlines and blocks. Plain part: merged inlines: what Merge returns; it keeps the plain text, and changes nothing the second time, nor a line without errors. Plain part: groups of texts in Merge. Plain part: clean texts one after the other are clean. Plain part: entry lines, as the program and as the reference make them. Contracts of chars.width, second, unclean, Next, Valid; of attr.cleanLine, tree.cleanLine, trimmed, cleanText. Contracts of attr.cleanLine, tree.cleanLine, trimmed, cleanText, address' first test; attr.Empty. Plain part: attributes in braces, read off a list of bytes; what is read does not depend on what stands behind the closing brace. -/
import Derived.Test.YtklhajbpfelliaaGreatDoorKSame
import Derived.Test.YtklhajbpfelliaaGreatDoorKCtC
import Derived.Lib.RuneCount
set_option maxHeartbeats 4000000
set_option maxRecDepth 100000
open Go.Lib (hid)
namespace Go.Proofs.YtklhajbpfelliaaGreatDoor
open Bool renaming eq_iff_iff->jFz
open List renaming cons_append->jG9
set_option linter.unusedVariables false
set_option linter.unusedSimpArgs false
def vD (p:Nat × Nat):Bool:=(decide (p.1=10)||(decide (32<=p.1)&&!decide (p.1=127)))&&!(decide (p.1=65533)&&decide (p.2=1))
def DF (s:ByteArray):Bool:=(pts s).all vD
def xC (s:ByteArray):Bool:=s.data.toList.all fun c=>!decide (c=10)
def dG (s:ByteArray):Bool:=DF s&&xC s
def trimS (s:ByteArray):Bool:=decide (s.data.toList=[])||(!decide (s.data.toList.head?=some 32)&&!decide (s.data.toList.getLast?=some 32))
def mZ (s:ByteArray) (bs:List UInt8):Bool:=s.data.toList.any fun c=>bs.contains c
def kg (p:Nat × Nat):Bool:=iM p.1||Es p.1||[32,45,95,46,58].contains p.1
def uJ (s:ByteArray):Bool:=decide (1<=s.size)&&decide (s.size<=60)&&decide (nI s=s)&&(pts s).all kg
def bq (s:ByteArray):Bool:=decide (s.data.toList=[])
def At.none (a:At):Bool:=bq a.id&&a.cls.isEmpty&&a.aF.isEmpty
def uI (seen:List ByteArray):List ByteArray->Nat
 | []=>0
 | c::l=>if dU c=false then 6 else if q22 seen c=true then 7 else uI (seen++[c]) l
def vC (seen:List ByteArray):List Pr->Nat
 | []=>0
 | p::l=>if dU p.key=false then 6 else if dG p.val=false then 17 else if q22 seen p.key=true then 7 else vC (seen++[p.key]) l
def At.err (a:At):Nat:=
 if bq a.id=false/\dU a.id=false then 6
 else if uI [] a.cls≠0 then uI [] a.cls
 else if vC [] a.aF≠0 then vC [] a.aF
 else if 32<a.cls.length\/32<a.aF.length then 3 else 0
mutual
def aj.LJ (ks:List Int):aj->Bool
 | .mk k _ _ _ _ _ _ kids=>ks.contains k||aj.dx ks kids
def aj.dx (ks:List Int):List aj->Bool
 | []=>false
 | x::l=>x.LJ ks||aj.dx ks l
end
def dB:List Int:=[9,16,12,14,13]
def bY:List Int:=[2,3]
def yH (k:Int) (t d ti:ByteArray) (a:At) (ar:List ByteArray) (ci:List Ci) (ks:List aj):Bool:=
 decide (1<=k)&&decide (k<=16)&&(([1,4,5,9,10,12,14,15]:List Int).contains k||bq t)&&(([9,10,16]:List Int).contains k||bq d)&&(([9,10,14]:List Int).contains k||bq ti) &&
 (([10,11]:List Int).contains k||a.none)&&(([6,7,8,9,10,11]:List Int).contains k||ks.isEmpty)&&(decide (k=15)||ar.isEmpty)&&(decide (k=13)||ci.isEmpty)
def gK (s:ByteArray):Nat:=(s.data.toList.takeWhile fun c=>eD c.toNat).length
def mM (s:ByteArray):Bool:=decide (2<=gK s)&&decide (gK s<=20)&&decide (s.data.toList[gK s]?=some 58)&&dG s&&!mZ s [32,60,62]
def iB (s:ByteArray):Bool:=!dG s||!trimS s||mZ s [91,93,59,64,123,36,96]
def eP:List Ci->Nat
 | []=>0
 | c::l=>if dU c.key=false then 6 else if iB c.pre=true\/iB c.suf=true then 17 else eP l
def Rb (l:List Ci):Nat:=if l.isEmpty=true then 8 else eP l
def QB (k:Int) (t d ti:ByteArray) (a:At) (ks:List aj):Nat:=
 if bq t=false/\(bq d=false\/bq ti=false) then 5
 else if bq t=false/\uJ t=false then 6
 else if dG d=false\/dG ti=false then 17
 else if k=9/\aj.dx dB ks=true then 5
 else if k=10 then a.err else 0
def Ev (s:ByteArray):Bool:=!dG s||mZ s [124,123,125]
def nR:List UInt8:=[112,97,103,101]
def Rf (k:Int) (t ti:ByteArray) (ar:List ByteArray):Nat:=
 if dU t=false then 6
 else if k=14/\bq ti=false/\ti.data.toList≠nR then 5
 else if 8<ar.length then 3
 else if ar.any Ev then 17 else 0
def oV (before:Int) (first last:Bool) (k:Int) (t d ti:ByteArray) (a:At) (ar:List ByteArray) (ci:List Ci) (ks:List aj):Nat:=
 if yH k t d ti a ar ci ks=false then 5
 else if k=1\/k=4\/k=5 then (if bq t=true\/dG t=false then 17 else if k≠5/\before=k then 5 else 0)
 else if k=2 then (if before=2\/before=3\/first=true\/last=true then 5 else 0)
 else if k=3 then (if last=true then 5 else 0)
 else if k=6\/k=7\/k=8 then (if ks.isEmpty=true then 8 else 0)
 else if k=9\/k=10 then QB k t d ti a ks
 else if k=11 then (if a.none=true then 8 else a.err)
 else if k=12\/k=14\/k=15 then Rf k t ti ar
 else if k=13 then Rb ci
 else if mM d=true then 0 else 5
def aj.kd:aj->Int
 | .mk k _ _ _ _ _ _ _=>k
mutual
def aj.err (before:Int) (first last:Bool) (dp:Nat):aj->Nat
 | .mk k t d ti a ar ci ks=>if oV before first last k t d ti a ar ci ks≠0 then oV before first last k t d ti a ar ci ks else aj.aT 0 true (dp+1) ks
def aj.aT (before:Int) (st:Bool) (dp:Nat):List aj->Nat
 | []=>0
 | x::l=>if 15<dp then 11 else if x.err before (decide (dp=0)&&st) (decide (dp=0)&&l.isEmpty) dp≠0 then x.err before (decide (dp=0)&&st) (decide (dp=0)&&l.isEmpty) dp
   else aj.aT x.kd false dp l
end
def pO (l:List aj):Nat:=aj.aT 0 true 0 l
def yJ (k lv:Int) (i t d ti:ByteArray) (a:At) (li:List aj) (ks:List ah):Bool:=
 decide (1<=k)&&decide (k<=15)&&(([2,8]:List Int).contains k||decide (lv=0))&&(([3,10,13,14,15]:List Int).contains k||bq i)&&(([3,4]:List Int).contains k||bq t) &&
 (decide (k=15)||(bq d&&bq ti))&&(([2,4,13]:List Int).contains k||a.none)&&(([1,2,12]:List Int).contains k||li.isEmpty)&&(([6,7,8,9,10,11,13,14]:List Int).contains k||ks.isEmpty)
def dX (k par:Int):Bool:=
 if par=7\/par=8 then decide (k=9) else if par=10 then decide (k=11) else if par=11 then decide (k=12) else !([9,11,12]:List Int).contains k
def iy (s:ByteArray):Bool:=bq s||(DF s&&decide (s.data.toList.getLast?=some 10))
def ah.oC:ah->Nat
 | .mk _ _ _ _ _ _ _ _ ks=>ks.length
def QT (i:ByteArray) (ks:List ah):Nat:=
 if 32<i.size then 3 else if bq i=true then 5 else if i.data.toList.any (fun c=>!([45,108,99,114]:List UInt8).contains c) then 5
 else if ks.isEmpty=true then 8 else if ks.any (fun b=>!decide (b.oC=i.size)) then 15 else 0
def qX (cl:ByteArray->Bool) (k lv:Int) (i t d ti:ByteArray) (a:At) (li:List aj) (ks:List ah):Nat:=
 if k=1 then (if li.isEmpty=true then 8 else pO li)
 else if k=2 then (if lv<1\/6<lv then 9 else if a.err≠0 then a.err else if aj.dx bY li=true then 5 else pO li)
 else if k=12 then (if aj.dx bY li=true then 5 else pO li)
 else if k=3 then (if dG i=false\/trimS i=false\/iy t=false then 17 else 0)
 else if k=4 then (if iy t=false then 17 else if cl t=true then 5 else a.err)
 else if k=7\/k=8 then (if ks.isEmpty=true then 8 else if k=8/\(lv<0\/999999999<lv) then 9 else 0)
 else if k=10 then QT i ks
 else if k=13\/k=14 then (if dU i=false then 6 else a.err)
 else if k=15 then (if uJ i=false then 6 else if dG d=false\/dG ti=false then 17 else 0)
 else 0
mutual
def ah.err (cl:ByteArray->Bool) (par:Int) (dp:Nat):ah->Nat
 | .mk k lv i t d ti a li ks=>if 15<dp then 11 else if yJ k lv i t d ti a li ks=false\/dX k par=false then 5
   else if qX cl k lv i t d ti a li ks≠0 then qX cl k lv i t d ti a li ks else ah.aT cl k (dp+1) ks
def ah.aT (cl:ByteArray->Bool) (par:Int) (dp:Nat):List ah->Nat
 | []=>0
 | x::l=>if x.err cl par dp≠0 then x.err cl par dp else ah.aT cl par dp l
end
def uL (seen:List ByteArray):List Pr->Nat
 | []=>0
 | p::l=>if dU p.key=false then 6 else if dG p.val=false\/trimS p.val=false then 17 else if q22 seen p.key=true then 7 else uL (seen++[p.key]) l
open Go.RowKit
def tX (b:Nat):Nat:=if b<128 then 1 else if 194<=b/\b<=223 then 2 else if 224<=b/\b<=239 then 3 else if 240<=b/\b<=244 then 4 else 0
theorem kJ (c:Nat) (w:World) (hc:c<256) : Calls Tryz.prog 125 #[.int .u8 (c:Int)] w fun e w'=>e=.returned (.int .i64 (tX c:Nat))/\w=w':=by
 go_enter Tryz.func125,Tryz.ntmps125;go_wp2;all_goals
  go_ret;refine ⟨JK ?_,rfl⟩;unfold tX
  (repeat' split)<;>omega
theorem tY (c:Nat) (w:World) (hc:c<256) : Calls Tryz.prog 126 #[.int .u8 (c:Int)] w fun e w'=>e=.returned (.tuple #[.int .u8 (jg c:Nat),.int .u8 (jS c:Nat)])/\w=w':=by
 go_enter Tryz.func126,Tryz.ntmps126;go_wp2;all_goals
  go_ret2
  refine ⟨?_,rfl⟩
  (try simp only [beq_iff_eq,beq_eq_false_iff_ne,ne_eq] at *)
  unfold jg jS
  (repeat' split)<;>first | rfl | (exfalso;omega)
def Vl (c:Nat):Bool:=(decide (c<32)&&!decide (c=10))||decide (c=127)
theorem Vm{P:Prop}(h:P:=by
 (try simp only [beq_iff_eq,beq_eq_false_iff_ne,ne_eq,bne_iff_ne,bne_eq_false_iff_eq] at *)
 rw [Bool.eq_iff_iff];simp
 (try omega)):P:=h
theorem Cj (c:Nat) (w:World) (hc:c<=1114111) : Calls Tryz.prog 96 #[.int .i64 (c:Int)] w fun e w'=>e=.returned (.bool (Vl c))/\w=w':=by
 go_enter Tryz.func96,Tryz.ntmps96;go_wp2;all_goals
  go_ret;refine ⟨wW ?_,rfl⟩;unfold Vl;exact Vm
theorem pY (a:Nat) (ha:a<9223372036854775808):(BitVec.ofInt 64 (a:Int)).toNat=a:=by rw [BitVec.ofInt_natCast,BitVec.toNat_ofNat];exact Nat.mod_eq_of_lt (by omega)
theorem oJ (a b:Nat) (ha:a<9223372036854775808) (hb:b<9223372036854775808):bits .and .i64 (a:Int) (b:Int)=((a &&& b:Nat):Int):=by have hx:a &&& b<2 ^ 63:=Nat.and_lt_two_pow _ (by omega);show IntKind.i64.wrap ((BitVec.ofInt 64 (a:Int) &&& BitVec.ofInt 64 (b:Int)).toNat:Int)=_;rw [BitVec.toNat_and,pY a ha,pY b hb,IntKind.wrap_i64];omega
theorem LM (a b:Nat) (ha:a<9223372036854775808) (hb:b<9223372036854775808):bits .or .i64 (a:Int) (b:Int)=((a ||| b:Nat):Int):=by
 have hx:a ||| b<2 ^ 63:=Nat.or_lt_two_pow (by omega) (by omega)
 show IntKind.i64.wrap ((BitVec.ofInt 64 (a:Int) ||| BitVec.ofInt 64 (b:Int)).toNat:Int)=_;rw [BitVec.toNat_or,pY a ha,pY b hb,IntKind.wrap_i64];omega
def kR (s:ByteArray):Nat->Nat->Nat->Option Nat
 | 0,_,c=>some c
 | r+1,p,c=>if p<s.size/\128<=bt s p/\bt s p<=191 then kR s r (p+1) (c*64+(bt s p-128)) else none
def OB (s:ByteArray) (i:Nat) (n:Nat):Option Nat->Nat × Nat
 | none=>(65533,1)
 | some c=>(c,n)
theorem Gn (s:ByteArray) (i:Nat) (hi:i<s.size) (h:194<=bt s i) (h':bt s i<=223):Utf8.decode s i=OB s i 2 (kR s 1 (i+1) (bt s i%32)):=by
 obtain ⟨d1,d2⟩:=xH s i hi h h';unfold mY at d1 d2;rw [kR,kR];split
 ·rename_i hc
  rw [if_pos hc] at d1 d2;obtain ⟨e1,e2⟩:=d2 (by omega);refine Prod.ext ?_ e2;show _=bt s i%32*64+(bt s (i+1)-128);omega
 ·rename_i hc
  rw [if_neg hc] at d1;exact d1 (by omega)
theorem jg3{P:Prop}(h:P:=by
 rw [if_neg (c:=i+1<s.size/\jg _<=_/\_) (by omega)] at d1;rw [if_neg (by omega)];exact d1 (.inl (by omega))):P:=h
theorem Gp (s:ByteArray) (i:Nat) (hi:i<s.size) (h:224<=bt s i) (h':bt s i<=239) : ((¬ (i+1<s.size/\jg (bt s i)<=bt s (i+1)/\bt s (i+1)<=jS (bt s i))\/s.size<i+3)->Utf8.decode s i=(65533,1)) /\ (jg (bt s i)<=bt s (i+1)->bt s (i+1)<=jS (bt s i)->Utf8.decode s i=OB s i 3 (kR s 2 (i+1) (bt s i%16))):=by
 obtain ⟨d1,d2⟩:=D9 s i hi h h';have hl:128<=jg (bt s i):=by unfold jg;split<;>(try split)<;>omega
 have hh:jS (bt s i)<=191:=by unfold jS;split<;>(try split)<;>omega
 unfold mY at d1 d2;constructor
 ·rintro (hc | hc)
  ·rw [if_neg hc] at d1;exact d1 (.inl (by omega))
  ·rw [if_neg (c:=i+2<s.size/\_) (by omega)] at d1;exact d1 (.inr (by omega))
 ·intro h1 h2;rw [kR,kR,kR,show i+1+1=i+2 from rfl];by_cases k1:i+1<s.size
  ·have hc:i+1<s.size/\jg (bt s i)<=bt s (i+1)/\bt s (i+1)<=jS (bt s i):=⟨k1,h1,h2⟩;rw [if_pos hc] at d1 d2;rw [if_pos ⟨k1,by omega,by omega⟩];split
   ·rename_i hc2
    rw [if_pos hc2] at d2;obtain ⟨e1,e2⟩:=d2 (by omega) (by omega);refine Prod.ext ?_ e2;show _=(bt s i%16*64+(bt s (i+1)-128))*64+(bt s (i+2)-128);omega
   ·rename_i hc2
    rw [if_neg (c:=i+2<s.size/\_) hc2] at d1;exact d1 (.inr (by omega))
  ·exact jg3
theorem Gq (s:ByteArray) (i:Nat) (hi:i<s.size) (h:240<=bt s i) (h':bt s i<=244) : ((¬ (i+1<s.size/\jg (bt s i)<=bt s (i+1)/\bt s (i+1)<=jS (bt s i))\/s.size<i+4)->Utf8.decode s i=(65533,1)) /\ (jg (bt s i)<=bt s (i+1)->bt s (i+1)<=jS (bt s i)->Utf8.decode s i=OB s i 4 (kR s 3 (i+1) (bt s i%8))):=by
 obtain ⟨d1,d2⟩:=IU s i hi h h';have hl:128<=jg (bt s i):=by unfold jg;split<;>(try split)<;>omega
 have hh:jS (bt s i)<=191:=by unfold jS;split<;>(try split)<;>omega
 unfold mY at d1 d2;constructor
 ·rintro (hc | hc)
  ·rw [if_neg hc] at d1;exact d1 (.inl (by omega))
  ·rw [if_neg (c:=i+3<s.size/\_) (by omega)] at d1;exact d1 (.inr (.inr (by omega)))
 ·intro h1 h2;rw [kR,kR,kR,kR,show i+1+1=i+2 from rfl,show i+2+1=i+3 from rfl];by_cases k1:i+1<s.size
  ·have hc:i+1<s.size/\jg (bt s i)<=bt s (i+1)/\bt s (i+1)<=jS (bt s i):=⟨k1,h1,h2⟩;rw [if_pos hc] at d1 d2;rw [if_pos ⟨k1,by omega,by omega⟩];by_cases hc2:i+2<s.size/\128<=bt s (i+2)/\bt s (i+2)<=191
   ·rw [if_pos hc2] at d1 d2;rw [if_pos (by exact hc2)];split
    ·rename_i hc3
     rw [if_pos hc3] at d2;obtain ⟨e1,e2⟩:=d2 (by omega) (by omega) (by omega);refine Prod.ext ?_ e2;show _=((bt s i%8*64+(bt s (i+1)-128))*64+(bt s (i+2)-128))*64+(bt s (i+3)-128);omega
    ·rename_i hc3
     rw [if_neg (c:=i+3<s.size/\_) hc3] at d1;exact d1 (.inr (.inr (by omega)))
   ·rw [if_neg hc2] at d1;rw [if_neg (by exact hc2)];exact d1 (.inr (.inl (by omega)))
  ·exact jg3
theorem jqk (c b:Nat) (hb:b<64):(c*64) ||| b=c*64+b:=by rw [show 64=2 ^ 6 from rfl] at *;rw [Nat.mul_comm,<- Nat.two_pow_add_eq_or_of_lt hb]
theorem LP (c bk:Nat) (hc:c<262144) (h1:128<=bk) (h2:bk<=191):bits .or .i64 ((c:Int)*64) ((bk:Int)%64)=((c*64+(bk-128):Nat):Int):=by
 have hw:((c:Int)*64)=((c*64:Nat):Int):=by omega
 have hm:((bk:Int)%64)=((bk%64:Nat):Int):=by omega
 rw [hw,hm,LM _ _ (by omega) (by omega),jqk _ _ (by omega)];omega
def Oc (s:ByteArray) (i n:Nat) (R:Option Nat) (vc vk:Value):Prop:=∃ k c:Nat,k<=n-1/\c<64 ^ (k+1)/\vk=.int .i64 k/\vc=.int .i64 c/\kR s (n-1-k) (i+1+k) c=R
theorem Vn{P:Prop}(h:P:=by
 have hcn:c*64+(bk-128)<64 ^ (k+1+1):=by rw [Nat.pow_succ];omega
 obtain ⟨cn,jw5⟩:∃ cn,c*64+(bk-128)=cn:=⟨_,rfl⟩;rw [jw5] at hor HR2 hcn;have HCN:=hid hcn;obtain ⟨g1,g2⟩:=hgd;clear hc hcn jw5 HST HG;go_wp2
 go_round
 case rel=>exact ⟨k+1,cn,by omega,HCN.out,by go_num,rfl,HR2.out⟩
 case measure=>simp [intOf];omega):P:=h
theorem Vo{P:Prop}(h:P:=by
 have HR2:Hid (R=none):=by show _=_;rw [<- HG.out,HST.out,if_neg (fun h=>hgd h.2)]
 have hgd:bk<128\/191<bk:=by omega
 clear hc HST HG;rcases hgd with hgd | hgd
 all_goals
  go_wp2
  go_ret2
  exact ⟨by rw [HR2.out];rfl,_,rfl⟩):P:=h
theorem Vp{P Q:Prop}(q:Q)(h:Nonempty Q->P:=by
 intro qQ;have hik:i+1+k<s.size:=by omega
 have ek:=jh s (i+1+k) hik;have hbk:=gJ s (i+1+k);have hcc:c<262144:=by have h:=Nat.pow_le_pow_right (show 0<64 by omega) (show k+1<=3 by omega);omega
 revert hik ek hbk hcc;exact qQ.elim fun x=>x):P:=h ⟨q⟩
theorem Vq{P Q:Prop}(q:Q)(h:Nonempty Q->P:=by
 intro qQ;have q1:decide ((i:Int)<0)=false:=by simp
 have q3:decide (b1<lo)=false:=by simp;omega
 have q4:decide (hi_<b1)=false:=by simp;omega
 revert q1 q3 q4;exact qQ.elim fun x=>x):P:=h ⟨q⟩
theorem rQ (s:ByteArray) (i n b1:Nat) (w:World) (hs:s.size<=1000000000) (hn:i+n<=s.size) (h2:2<=n) (h4:n<=4) (hw:tX (bt s i)=n) (hb1:bt s (i+1)=b1) (hl:jg (bt s i)<=b1) (hh:b1<=jS (bt s i)) : Calls Tryz.prog 95 #[.string s,.int .i64 (i:Int)] w fun e w'=>e=.returned (.tuple #[.int .i64 (OB s i n (kR s (n-1) (i+1) (bt s i%2 ^ (7-n)))).1,.int .i64 (OB s i n (kR s (n-1) (i+1) (bt s i%2 ^ (7-n)))).2])/\∃ q,w'=w.drewN q:=by
 have hb:=gJ s i;have hi:i<s.size:=by omega
 have hi1:i+1<s.size:=by omega
 have e0:=jh s i hi;have e1:=jh s (i+1) hi1;rw [hb1] at e1;obtain ⟨b0,hb0⟩:∃ b0,bt s i=b0:=⟨_,rfl⟩;rw [hb0] at e0 hb hw hl hh ⊢;have WD:=hid (fun w=>kJ b0 w hb);rw [hw] at WD;have SD:=hid (fun w=>tY b0 w hb);generalize jg b0=lo at *;generalize jS b0=hi_ at *;clear hb0 hw hb1;have a31:bits .and .i64 (b0:Int) 31=((b0%32:Nat):Int):=by rw [show (31:Int)=((31:Nat):Int) from rfl,oJ b0 31 (by omega) (by omega),show 31=2 ^ 5-1 from rfl,Nat.and_two_pow_sub_one_eq_mod]
 have a15:bits .and .i64 (b0:Int) 15=((b0%16:Nat):Int):=by rw [show (15:Int)=((15:Nat):Int) from rfl,oJ b0 15 (by omega) (by omega),show 15=2 ^ 4-1 from rfl,Nat.and_two_pow_sub_one_eq_mod]
 have a7:bits .and .i64 (b0:Int) 7=((b0%8:Nat):Int):=by rw [show (7:Int)=((7:Nat):Int) from rfl,oJ b0 7 (by omega) (by omega),show 7=2 ^ 3-1 from rfl,Nat.and_two_pow_sub_one_eq_mod]
 obtain ⟨R,hR⟩:∃ R,kR s (n-1) (i+1) (b0%2 ^ (7-n))=R:=⟨_,rfl⟩;obtain ⟨c0,hc0⟩:∃ c0,b0%2 ^ (7-n)=c0:=⟨_,rfl⟩;have jBj:c0<64:=by rw [<- hc0];have:=Nat.mod_lt b0 (show 0<2 ^ (7-n) by exact Nat.two_pow_pos _);have h:=Nat.pow_le_pow_right (show 0<2 by omega) (show 7-n<=5 by omega);omega
 rw [hR];rw [hc0] at hR;have R0:Hid (Oc s i n R (.int .i64 c0) (.int .i64 0)):=⟨0,c0,Nat.zero_le _,by simpa using jBj,rfl,rfl,hR⟩;clear hR;obtain rfl | rfl | rfl:n=2\/n=3\/n=4:=by omega
 ·have hc0:b0%32=c0:=hc0;rw [hc0] at a31;clear a15 a7;have HC0:=hid hc0;clear hc0;have q2:decide ((s.size:Int)-(i:Int)<2)=false:=by simp;omega
  refine Vq ?_;intro q1 q3 q4;go_enter Tryz.func95,Tryz.ntmps95;go_wp2_with (first | (go_at_call 125;refine (WD.out _).mono ?_;rintro e w1 ⟨rfl,rfl⟩) | (go_at_call 126;refine (SD.out _).mono ?_;rintro e w1 ⟨rfl,rfl⟩))
  go_quiet (fail)
  go_wp2
  go_loop [4,71] (fun c k=>Oc s i 2 R c k) (fun _ k=>2-(intOf k).toNat)
  case atStart=>exact R0.out
  case round=>
   clear R0 a31;obtain ⟨k,c,hk,hc,rfl,rfl,hg⟩:=hrel;have HG:=hid hg;clear hg;by_cases hk1:k<1
   ·refine Vp ?_;intro hik ek hbk hcc;have hst:kR s (2-1-k) (i+1+k) c=if i+1+k<s.size/\128<=bt s (i+1+k)/\bt s (i+1+k)<=191 then kR s (2-1-(k+1)) (i+1+(k+1)) (c*64+(bt s (i+1+k)-128)) else none:=by
     rw [show 2-1-k=(2-1-(k+1))+1 by omega,kR];rfl
    obtain ⟨bk,hbe⟩:∃ bk,bt s (i+1+k)=bk:=⟨_,rfl⟩;rw [hbe] at ek hbk hst;have HST:=hid hst;clear hst hbe;by_cases hgd:128<=bk/\bk<=191
    ·have hor:=LP c bk hcc hgd.1 hgd.2;have HR2:Hid (kR s (2-1-(k+1)) (i+1+(k+1)) (c*64+(bk-128))=R):=by
      show _=_;rw [<- HG.out,HST.out,if_pos ⟨hik,hgd⟩]
     exact Vn
    ·exact Vo
   ·obtain rfl:k=1:=by omega
    have HR2:Hid (R=some c):=by show _=_;rw [<- HG.out];rfl
    clear hc HG hk1;go_wp2
    go_ret2
    exact ⟨by rw [HR2.out];rfl,_,rfl⟩
 ·have hc0:b0%16=c0:=hc0;rw [hc0] at a15;clear a31 a7;have HC0:=hid hc0;clear hc0;have q2:decide ((s.size:Int)-(i:Int)<3)=false:=by simp;omega
  refine Vq ?_;intro q1 q3 q4;go_enter Tryz.func95,Tryz.ntmps95;go_wp2_with (first | (go_at_call 125;refine (WD.out _).mono ?_;rintro e w1 ⟨rfl,rfl⟩) | (go_at_call 126;refine (SD.out _).mono ?_;rintro e w1 ⟨rfl,rfl⟩))
  go_quiet (fail)
  go_wp2
  go_loop [4,71] (fun c k=>Oc s i 3 R c k) (fun _ k=>3-(intOf k).toNat)
  case atStart=>exact R0.out
  case round=>
   clear R0 a15;obtain ⟨k,c,hk,hc,rfl,rfl,hg⟩:=hrel;have HG:=hid hg;clear hg;by_cases hk1:k<2
   ·refine Vp ?_;intro hik ek hbk hcc;have hst:kR s (3-1-k) (i+1+k) c=if i+1+k<s.size/\128<=bt s (i+1+k)/\bt s (i+1+k)<=191 then kR s (3-1-(k+1)) (i+1+(k+1)) (c*64+(bt s (i+1+k)-128)) else none:=by
     rw [show 3-1-k=(3-1-(k+1))+1 by omega,kR];rfl
    obtain ⟨bk,hbe⟩:∃ bk,bt s (i+1+k)=bk:=⟨_,rfl⟩;rw [hbe] at ek hbk hst;have HST:=hid hst;clear hst hbe;by_cases hgd:128<=bk/\bk<=191
    ·have hor:=LP c bk hcc hgd.1 hgd.2;have HR2:Hid (kR s (3-1-(k+1)) (i+1+(k+1)) (c*64+(bk-128))=R):=by
      show _=_;rw [<- HG.out,HST.out,if_pos ⟨hik,hgd⟩]
     exact Vn
    ·exact Vo
   ·obtain rfl:k=2:=by omega
    have HR2:Hid (R=some c):=by show _=_;rw [<- HG.out];rfl
    clear hc HG hk1;go_wp2
    go_ret2
    exact ⟨by rw [HR2.out];rfl,_,rfl⟩
 ·have hc0:b0%8=c0:=hc0;rw [hc0] at a7;clear a31 a15;have HC0:=hid hc0;clear hc0;have q2:decide ((s.size:Int)-(i:Int)<4)=false:=by simp;omega
  refine Vq ?_;intro q1 q3 q4;go_enter Tryz.func95,Tryz.ntmps95;go_wp2_with (first | (go_at_call 125;refine (WD.out _).mono ?_;rintro e w1 ⟨rfl,rfl⟩) | (go_at_call 126;refine (SD.out _).mono ?_;rintro e w1 ⟨rfl,rfl⟩))
  go_quiet (fail)
  go_wp2
  go_loop [4,71] (fun c k=>Oc s i 4 R c k) (fun _ k=>4-(intOf k).toNat)
  case atStart=>exact R0.out
  case round=>
   clear R0 a7;obtain ⟨k,c,hk,hc,rfl,rfl,hg⟩:=hrel;have HG:=hid hg;clear hg;by_cases hk1:k<3
   ·refine Vp ?_;intro hik ek hbk hcc;have hst:kR s (4-1-k) (i+1+k) c=if i+1+k<s.size/\128<=bt s (i+1+k)/\bt s (i+1+k)<=191 then kR s (4-1-(k+1)) (i+1+(k+1)) (c*64+(bt s (i+1+k)-128)) else none:=by
     rw [show 4-1-k=(4-1-(k+1))+1 by omega,kR];rfl
    obtain ⟨bk,hbe⟩:∃ bk,bt s (i+1+k)=bk:=⟨_,rfl⟩;rw [hbe] at ek hbk hst;have HST:=hid hst;clear hst hbe;by_cases hgd:128<=bk/\bk<=191
    ·have hor:=LP c bk hcc hgd.1 hgd.2;have HR2:Hid (kR s (4-1-(k+1)) (i+1+(k+1)) (c*64+(bk-128))=R):=by
      show _=_;rw [<- HG.out,HST.out,if_pos ⟨hik,hgd⟩]
     exact Vn
    ·exact Vo
   ·obtain rfl:k=3:=by omega
    have HR2:Hid (R=some c):=by show _=_;rw [<- HG.out];rfl
    clear hc HG hk1;go_wp2
    go_ret2
    exact ⟨by rw [HR2.out];rfl,_,rfl⟩
def Dr (v:Value) (w:World) (e:Ending) (w':World):Prop:=e=.returned v/\∃ q,w'=w.drewN q
theorem LQ (s:ByteArray) (i:Nat) (w:World) (hs:s.size<=1000000000) (hi:i<s.size) : Calls Tryz.prog 95 #[.string s,.int .i64 (i:Int)] w (Dr (.tuple #[.int .i64 (Utf8.decode s i).1,.int .i64 (Utf8.decode s i).2]) w):=by
 have hb:=gJ s i;have e0:=jh s i hi;have q1:decide ((i:Int)<0)=false:=by simp
 by_cases c1:bt s i<128
 ·rw [xE s i c1];obtain ⟨b0,hb0⟩:∃ b0,bt s i=b0:=⟨_,rfl⟩;rw [hb0] at e0 hb c1 ⊢;have hw:tX b0=1:=by unfold tX;rw [if_pos c1]
  have WD:=hid (fun w=>kJ b0 w hb);rw [hw] at WD;clear hw hb0;go_enter Tryz.func95,Tryz.ntmps95;go_wp2_with ((go_at_call 125;refine (WD.out _).mono ?_;rintro e w1 ⟨rfl,rfl⟩))
  go_ret2
  exact ⟨rfl,0,rfl⟩
 by_cases c2:bt s i<194\/244<bt s i
 ·rw [xG s i (by omega) c2];obtain ⟨b0,hb0⟩:∃ b0,bt s i=b0:=⟨_,rfl⟩;rw [hb0] at e0 hb c1 c2;have hw:tX b0=0:=by unfold tX;(repeat' split)<;>omega
  have WD:=hid (fun w=>kJ b0 w hb);rw [hw] at WD;clear hw hb0 c2;go_enter Tryz.func95,Tryz.ntmps95;go_wp2_with ((go_at_call 125;refine (WD.out _).mono ?_;rintro e w1 ⟨rfl,rfl⟩))
  go_ret2
  exact ⟨rfl,0,rfl⟩
 have bad:∀ n:Nat,2<=n->n<=4->tX (bt s i)=n->(s.size<i+n\/bt s (i+1)<jg (bt s i)\/jS (bt s i)<bt s (i+1)) ->
   Calls Tryz.prog 95 #[.string s,.int .i64 (i:Int)] w (Dr (.tuple #[.int .i64 65533,.int .i64 1]) w):=by
  intro n h2 h4 hw hbad;obtain ⟨b0,hb0⟩:∃ b0,bt s i=b0:=⟨_,rfl⟩;rw [hb0] at e0 hb hw hbad;have WD:=hid (fun w=>kJ b0 w hb);rw [hw] at WD;have hn0:((n:Int)==0)=false:=by rw [beq_eq_false_iff_ne];omega
  have hn1:((n:Int)==1)=false:=by rw [beq_eq_false_iff_ne];omega
  by_cases hsz:s.size<i+n
  ·have q2:decide ((s.size:Int)-(i:Int)<(n:Int))=true:=by simp;omega
   clear hw hb0 hbad;go_enter Tryz.func95,Tryz.ntmps95;go_wp2_with ((go_at_call 125;refine (WD.out _).mono ?_;rintro e w1 ⟨rfl,rfl⟩))
   go_ret2
   exact ⟨rfl,0,rfl⟩
  ·have q2:decide ((s.size:Int)-(i:Int)<(n:Int))=false:=by simp;omega
   have hi1:i+1<s.size:=by omega
   have e1:=jh s (i+1) hi1;have SD:=hid (fun w=>tY b0 w hb);have hbad:bt s (i+1)<jg b0\/jS b0<bt s (i+1):=by omega
   generalize jg b0=lo at *;generalize jS b0=hi_ at *;generalize bt s (i+1)=b1 at *;clear hw hb0 hsz;rcases hbad with hbad | hbad
   all_goals
    go_enter Tryz.func95,Tryz.ntmps95;go_wp2_with (first | (go_at_call 125;refine (WD.out _).mono ?_;rintro e w1 ⟨rfl,rfl⟩) | (go_at_call 126;refine (SD.out _).mono ?_;rintro e w1 ⟨rfl,rfl⟩))
    all_goals
     go_ret2
     exact ⟨rfl,0,rfl⟩
 by_cases c3:bt s i<=223
 ·have hw:tX (bt s i)=2:=by unfold tX;(repeat' split)<;>omega
  by_cases hbd:s.size<i+2\/bt s (i+1)<jg (bt s i)\/jS (bt s i)<bt s (i+1)
  ·have hd:Utf8.decode s i=(65533,1):=by
    refine (xH s i hi (by omega) c3).1 ?_;have hl:jg (bt s i)=128:=by unfold jg;(repeat' split)<;>omega
    have hh:jS (bt s i)=191:=by unfold jS;(repeat' split)<;>omega
    unfold mY;rw [if_neg (by omega)];omega
   rw [hd];exact bad 2 (by omega) (by omega) hw hbd
  ·rw [Gn s i hi (by omega) c3];exact rQ s i 2 _ w hs (by omega) (by omega) (by omega) hw rfl (by omega) (by omega)
 by_cases c4:bt s i<=239
 ·have hw:tX (bt s i)=3:=by unfold tX;(repeat' split)<;>omega
  obtain ⟨d1,d2⟩:=Gp s i hi (by omega) c4;by_cases hbd:s.size<i+3\/bt s (i+1)<jg (bt s i)\/jS (bt s i)<bt s (i+1)
  ·rw [d1 (by omega)];exact bad 3 (by omega) (by omega) hw hbd
  ·rw [d2 (by omega) (by omega)];exact rQ s i 3 _ w hs (by omega) (by omega) (by omega) hw rfl (by omega) (by omega)
 ·have hw:tX (bt s i)=4:=by unfold tX;(repeat' split)<;>omega
  obtain ⟨d1,d2⟩:=Gq s i hi (by omega) (by omega);by_cases hbd:s.size<i+4\/bt s (i+1)<jg (bt s i)\/jS (bt s i)<bt s (i+1)
  ·rw [d1 (by omega)];exact bad 4 (by omega) (by omega) hw hbd
  ·rw [d2 (by omega) (by omega)];exact rQ s i 4 _ w hs (by omega) (by omega) (by omega) hw rfl (by omega) (by omega)
def jg4 (s:ByteArray) (V:Bool) (w:World) (vi:Value) (wr:World):Prop:=∃ i f q:Nat,i<=s.size/\s.size<=i+f/\vi=.int .i64 i/\(iR s f i).all vD=V/\wr=w.drewN q
theorem jg5{P:Prop}(h:P:=by
 cases hu:Vl c
 all_goals
  rw [hu] at UN Vr;clear hA k1 k2 hu QL;go_wp2_with fail
  refine NX.out.mono ?_;rintro e w1 ⟨rfl,q1,rfl⟩;go_wp2_with fail
  refine (UN.out _).mono ?_;rintro e w1 ⟨rfl,rfl⟩;go_wp2
 ·go_roundw;case rel=>exact ⟨i+n,f-1,q+q1,hd,by omega,by go_num,by rw [<- HST.out,Vr.out];simp,rfl⟩
  case measure=>simp [intOf];omega
 ·go_ret;exact ⟨by rw [<- HST.out,Vr.out];rfl,_,rfl⟩):P:=h
theorem oK (s:ByteArray) (w:World) (hs:s.size<=1000000000) : Calls Tryz.prog 68 #[.string s] w (Dr (.bool (DF s)) w):=by
 obtain ⟨V,hV⟩:∃ V,V=DF s:=⟨_,rfl⟩;rw [<- hV];have R0:Hid (jg4 s V w (.int .i64 0) w):=⟨0,s.size,0,Nat.zero_le _,by omega,rfl,by rw [hV];rfl,rfl⟩;clear hV;go_enter Tryz.func68,Tryz.ntmps68;go_wp2
 go_loopw [3] (fun i wr=>jg4 s V w i wr) (fun i _=>s.size-(intOf i).toNat)
 case atStart=>exact R0.out
 case round=>
  clear R0;obtain ⟨i,f,q,hi,hf,rfl,hall,rfl⟩:=hrel;by_cases hlt:i<s.size
  ·have NX:=hid (LQ s i (w.drewN q) hs hlt);have hd:=oO s i hlt;have hp:=iL s i;have hc:(Utf8.decode s i).1<=1114111:=xS s 1 i (Utf8.decode s i) (by rw [iR,if_pos hlt];simp);have hst:(vD (Utf8.decode s i)&&(iR s (f-1) (i+(Utf8.decode s i).2)).all vD)=V:=by
    rw [<- hall];obtain ⟨f',rfl⟩:∃ f',f=f'+1:=⟨f-1,by omega⟩;rw [iR,if_pos hlt];rfl
   have HST:=hid hst;clear hst hall;generalize Utf8.decode s i=d at *;obtain ⟨c,n⟩:=d;simp only at hd hp hc NX HST;have UN:=hid (fun w=>Cj c w hc);by_cases hA:c=65533/\n=1
   ·obtain ⟨rfl,rfl⟩:=hA;have HV:Hid (V=false):=by show V=false;rw [<- HST.out];rfl
    clear HST;go_wp2_with fail
    refine NX.out.mono ?_;rintro e w1 ⟨rfl,q1,rfl⟩;go_wp2;go_ret;exact ⟨by rw [HV.out];rfl,_,rfl⟩
   ·have hok:vD (c,n)=!Vl c:=by
     unfold vD Vl;rw [jFz];simp;omega
    have Vr:=hid hok;clear hok;have k1:((c:Int)==65533)=decide (c=65533):=by rw [jFz];simp;omega
    have k2:((n:Int)==1)=decide (n=1):=by rw [jFz];simp;omega
    by_cases QL:c=65533
    ·have hn1:n≠1:=fun h=>hA ⟨QL,h⟩
     have l1:((c:Int)==65533)=true:=by rw [k1];simpa using QL
     have l2:((n:Int)==1)=false:=by rw [k2];simpa using hn1
     clear hn1;exact jg5
    ·have l1:((c:Int)==65533)=false:=by rw [k1];simpa using QL
     exact jg5
  ·have HV:Hid (V=true):=by
    show V=true;rw [<- hall,sD s f i hlt];rfl
   clear hall;go_wp2;go_ret;exact ⟨by rw [HV.out];rfl,q,rfl⟩
open Go.RowKit
theorem oP:∀ (l:List UInt8) (c:UInt8),decide (Lib.indexByte l c<0)=l.all fun x=>!decide (x=c)
 | [],c=>rfl
 | b::l,c=>by
  have ih:=oP l c;have hge:=Lib.indexByte_ge l c;rw [Lib.indexByte,List.all_cons,<- ih];by_cases h:b=c
  ·subst h;simp
  ·have h1:(b==c)=false:=by simpa using h
   rw [h1];by_cases h2:Lib.indexByte l c=-1
   ·simp [h2,h]
   ·have h3:(Lib.indexByte l c==-1)=false:=by simpa using h2
    simp only [Bool.false_eq_true,if_false,h3];rw [jFz];simp [h];omega
theorem P7 (s:ByteArray):decide (Lib.indexByte s.data.toList ((10:Int).toNat.toUInt8)<0)=xC s:=oP _ _
theorem IY (s:ByteArray):dG s=(DF s&&decide (Lib.indexByte s.data.toList ((10:Int).toNat.toUInt8)<0)):=by rw [P7];rfl
theorem oQ (s:ByteArray):s.toList.isEmpty=bq s:=by rw [Lib.toList_data,jFz];simp [bq]
theorem Vs (s:ByteArray):bq s=decide (s.size=0):=by
 have h:s.data.toList.length=s.size:=by simp
 unfold bq;rw [jFz,decide_eq_true_iff,decide_eq_true_iff,<- h,List.length_eq_zero_iff]
theorem jqq (s:ByteArray):bq s=decide (s=ByteArray.empty):=by
 unfold bq;rw [jFz,decide_eq_true_iff,decide_eq_true_iff];constructor
 ·intro h;exact ByteArray.ext (Array.ext' h)
 ·rintro rfl;rfl
theorem fA (s:ByteArray):s=ByteArray.empty\/(s≠ByteArray.empty/\0<s.size/\s.toList.isEmpty=false/\bq s=false):=by
 by_cases h:s=ByteArray.empty
 ·exact .inl h
 ·have h1:bq s=false:=by rw [jqq];simpa using h
  refine .inr ⟨h,?_,by rw [oQ];exact h1,h1⟩;rw [Vs] at h1;have:s.size≠0:=by simpa using h1
  omega
theorem jg6{P:Prop}(h:P:=by
 go_wp2_with fail
 refine VA.out.mono ?_;rintro e w1 ⟨rfl,q,rfl⟩;go_wp2_with fail
 refine (IB.out _).mono ?_;rintro e w1 ⟨rfl,rfl⟩;go_wp2;go_ret;exact ⟨by rw [HL.out];rfl,_,rfl⟩):P:=h
theorem jg7{P:Prop}(h:P:=by
 go_wp2_with fail
 refine VA.out.mono ?_;rintro e w1 ⟨rfl,q,rfl⟩;go_wp2;go_ret;exact ⟨by rw [HL.out];rfl,_,rfl⟩):P:=h
theorem DW (s:ByteArray) (w:World) (hs:s.size<=1000000000) : Calls Tryz.prog 70 #[.string s] w (Dr (.bool (dG s)) w):=by
 have VA:=hid (oK s w hs);have IB:=hid (fun w=>Tryz.strings_IndexByte s 10 w);have HL:=hid (IY s);generalize dG s=V at *;generalize Lib.indexByte s.data.toList ((10:Int).toNat.toUInt8)=n at *;cases hv:DF s with
 | false=>
  rw [hv] at VA HL;clear hv;go_enter Tryz.func70,Tryz.ntmps70;exact jg7
 | true=>
  rw [hv] at VA HL;clear hv;go_enter Tryz.func70,Tryz.ntmps70;exact jg6
theorem Ra (s:ByteArray) (w:World) (hs:s.size<=1000000000) : Calls Tryz.prog 35 #[.string s] w (Dr (.bool (dG s)) w):=by
 have VA:=hid (oK s w hs);have IB:=hid (fun w=>Tryz.strings_IndexByte s 10 w);have HL:=hid (IY s);generalize dG s=V at *;generalize Lib.indexByte s.data.toList ((10:Int).toNat.toUInt8)=n at *;cases hv:DF s with
 | false=>
  rw [hv] at VA HL;clear hv;go_enter Tryz.func35,Tryz.ntmps35;exact jg7
 | true=>
  rw [hv] at VA HL;clear hv;go_enter Tryz.func35,Tryz.ntmps35;exact jg6
theorem YX (s:ByteArray) (c:UInt8) (h:0<s.size):decide (s.data.toList.head?=some c)=decide (bt s 0=c.toNat):=by
 have h1:s.data.toList.head?=some s[0]:=by rw [<- Cu s 0 h];exact List.head?_eq_getElem?
 rw [h1,<- jh s 0 h,jFz];simp [UInt8.toNat_inj]
theorem FN (s:ByteArray) (c:UInt8) (h:0<s.size):decide (s.data.toList.getLast?=some c)=decide (bt s (s.size-1)=c.toNat):=by
 have h1:s.data.toList.getLast?=some s[s.size-1]:=by rw [<- Cu s (s.size-1) (by omega),List.getLast?_eq_getElem?];congr 1
 rw [h1,<- jh s (s.size-1) (by omega),jFz];simp [UInt8.toNat_inj]
theorem jg8{P Q:Prop}(q:Q)(h:Nonempty Q->P:=by
 intro qQ;have hv:trimS s=(!decide (bt s 0=32)&&!decide (bt s (s.size-1)=32)):=by unfold trimS;unfold bq at hes;rw [hes,YX s 32 hp,FN s 32 hp];rfl
 rw [hv];have e0:=jh s 0 hp;have e1:=jh s (s.size-1) (by omega);revert hv e0 e1;exact qQ.elim fun x=>x):P:=h ⟨q⟩
theorem ji (s:ByteArray) (w:World) (hs:s.size<=1000000000) : Calls Tryz.prog 36 #[.string s] w fun e w'=>e=.returned (.bool (trimS s))/\w=w':=by
 rcases fA s with rfl | ⟨hne,hp,hie,hes⟩
 ·go_enter Tryz.func36,Tryz.ntmps36;go_wp2;go_ret;exact ⟨rfl,rfl⟩
 ·refine jg8 ?_;intro hv e0 e1;generalize bt s 0=b0 at *;generalize bt s (s.size-1)=b1 at *;have hsub:((s.size:Int)-1).toNat=s.size-1:=by omega
  clear hv hes;go_enter Tryz.func36,Tryz.ntmps36;go_wp2;all_goals
   go_ret;refine ⟨wW ?_,rfl⟩;exact Vm
theorem jg9{P:Prop}(h:P:=by
 (try simp only [beq_iff_eq,beq_eq_false_iff_ne,ne_eq,bne_iff_ne,bne_eq_false_iff_eq] at *)
 (try rw [Bool.eq_iff_iff])
 (try simp)
 (try omega)):P:=h
theorem qO (s:ByteArray) (w:World) (hs:s.size<=1000000000) : Calls Tryz.prog 118 #[.string s] w (Dr (.bool (iy s)) w):=by
 rcases fA s with rfl | ⟨hne,hp,hie,hes⟩
 ·go_enter Tryz.func118,Tryz.ntmps118;go_wp2;go_ret;exact ⟨rfl,0,rfl⟩
 ·have hv:iy s=(DF s&&decide (bt s (s.size-1)=10)):=by
   unfold iy;rw [hes,FN s 10 hp];rfl
  rw [hv];have e1:=jh s (s.size-1) (by omega);have VA:=hid (oK s w hs);generalize bt s (s.size-1)=b1 at *;generalize DF s=V at *;have hsub:((s.size:Int)-1).toNat=s.size-1:=by omega
  clear hv hes;cases V
  all_goals
   go_enter Tryz.func118,Tryz.ntmps118;go_wp2_with fail
   refine VA.out.mono ?_;rintro e w1 ⟨rfl,q,rfl⟩;go_wp2;all_goals
    go_ret;refine ⟨wW ?_,_,rfl⟩;exact jg9
def bS:List UInt8->List UInt8->Option (List UInt8 × List UInt8)
 | [],_=>none
 | c::l,acc=>
  if c=34 then some (acc,l)
  else if c=92 then (match l with
   | []=>none
   | d::l'=>if d=34\/d=92 then bS l' (acc++[d]) else none)
  else bS l (acc++[c])
def dh (l:List UInt8):ByteArray:=⟨l.toArray⟩
def q1z (l:List UInt8):Option (ByteArray × List UInt8):=
 if l.head?=some 34 then (match bS l.tail [] with
  | none=>none
  | some (v,r)=>if dG (dh v)=true then some (dh v,r) else none)
 else if dU (dh (l.takeWhile iJ))=true then some (dh (l.takeWhile iJ),l.dropWhile iJ) else none
def tL (l:List UInt8):List UInt8:=if l.head?=some 35\/l.head?=some 46 then l.tail else l
def keysOf (a:At):List ByteArray:=a.aF.map Pr.key
def kG (a:At) (l:List UInt8):Option (At × List UInt8):=
 if dU (dh ((tL l).takeWhile iJ))=false then none
 else if l.head?=some 35 then (if bq a.id=false then none else some (⟨dh ((tL l).takeWhile iJ),a.cls,a.aF⟩,(tL l).dropWhile iJ))
 else if l.head?=some 46 then (if q22 a.cls (dh ((tL l).takeWhile iJ))=true then none else if 32<=a.cls.length then none
  else some (⟨a.id,a.cls++[dh ((tL l).takeWhile iJ)],a.aF⟩,(tL l).dropWhile iJ))
 else if ((tL l).dropWhile iJ).head?=some 61 then (match q1z ((tL l).dropWhile iJ).tail with
  | none=>none
  | some (v,r)=>if q22 (keysOf a) (dh ((tL l).takeWhile iJ))=true then none else if 32<=a.aF.length then none
   else some (⟨a.id,a.cls,a.aF++[⟨dh ((tL l).takeWhile iJ),v⟩]⟩,r))
 else none
def fu (c:UInt8):Bool:=decide (c=32)
def dn (l:List UInt8):List UInt8:=l.dropWhile fu
def wK:Nat->At->Bool->List UInt8->Option (At × List UInt8)
 | 0,_,_,_=>none
 | f+1,a,sep,l=>
  if l.head?=some 125 then some (a,l.tail)
  else if l=[]\/sep=false then none
  else (match kG a l with
   | none=>none
   | some (a',l')=>wK f a' (decide (l'.head?=some 32)) (dn l'))
def Cc (l:List UInt8):Option (At × List UInt8):=
 if l.head?=some 123 then wK l.length ⟨dh [],[],[]⟩ true (dn l.tail) else none
theorem Ao (p:UInt8->Bool):∀ (n r:List UInt8),(∀ c∈n,p c=true)->(∀ c,r.head?=some c->p c=false)->(n++r).takeWhile p=n/\(n++r).dropWhile p=r
 | [],r,_,h2=>by
  cases r with
  | nil=>exact ⟨rfl,rfl⟩
  | cons c r=>exact ⟨by simp [h2 c rfl],by simp [h2 c rfl]⟩
 | c::n,r,h1,h2=>by
  have hc:=h1 c (by simp);obtain ⟨k1,k2⟩:=Ao p n r (fun x hx=>h1 x (by simp [hx])) h2;rw [jG9,List.takeWhile_cons,List.dropWhile_cons,hc];simp [k1,k2]
theorem gV (p:UInt8->Bool) (l:List UInt8):(∀ c∈l.takeWhile p,p c=true)/\(∀ c,(l.dropWhile p).head?=some c->p c=false):=by
 induction l with
 | nil=>simp
 | cons x l ih=>
  rw [List.takeWhile_cons,List.dropWhile_cons];cases h:p x with
  | true=>
   refine ⟨fun c hc=>?_,fun c hc=>ih.2 c (by simpa using hc)⟩;simp at hc;rcases hc with rfl | hc
   ·exact h
   ·exact ih.1 c hc
  | false=>exact ⟨by simp,fun c hc=>by simp at hc;rw [<- hc];exact h⟩
theorem xU (p:UInt8->Bool) (l r':List UInt8) (h:r'.head?=(l.dropWhile p).head?):(l.takeWhile p++r').takeWhile p=l.takeWhile p/\(l.takeWhile p++r').dropWhile p=r':=
 Ao p _ _ (gV p l).1 (fun c hc=>(gV p l).2 c (by rw [<- h];exact hc))
theorem rR:∀ (n:Nat) (l acc v r:List UInt8),l.length<=n->bS l acc=some (v,r)->∃ p,l=p++r/\p≠[]/\∀ r',bS (p++r') acc=some (v,r')
 | n,[],acc,v,r,_,h=>by rw [bS] at h;cases h
 | 0,c::l,acc,v,r,hn,h=>by simp at hn
 | n+1,c::l,acc,v,r,hn,h=>by
  simp only [List.length_cons] at hn;rw [bS.eq_def] at h;simp only at h;by_cases h1:c=34
  ·rw [if_pos h1] at h;injection h with h
   injection h with h2 h3
   subst h2 h3;exact ⟨[c],rfl,by simp,fun r'=>by rw [List.singleton_append,bS.eq_def];simp only;rw [if_pos h1]⟩
  ·rw [if_neg h1] at h;by_cases h2:c=92
   ·rw [if_pos h2] at h;cases l with
    | nil=>cases h
    | cons d l'=>
     simp only at h;by_cases h3:d=34\/d=92
     ·rw [if_pos h3] at h;obtain ⟨p,e1,e2,e3⟩:=rR n l' (acc++[d]) v r (by simp at hn;omega) h;refine ⟨c::d::p,by rw [e1];rfl,by simp,fun r'=>?_⟩;rw [jG9,jG9,bS.eq_def];simp only;rw [if_neg h1,if_pos h2,if_pos h3];exact e3 r'
     ·rw [if_neg h3] at h;cases h
   ·rw [if_neg h2] at h;obtain ⟨p,e1,e2,e3⟩:=rR n l (acc++[c]) v r (by omega) h;refine ⟨c::p,by rw [e1];rfl,by simp,fun r'=>?_⟩;rw [jG9,bS.eq_def];simp only;rw [if_neg h1,if_neg h2];exact e3 r'
theorem qc (l:List UInt8) (h:dU (dh l)=true):l≠[]:=by rintro rfl;revert h;decide
theorem LU (l r:List UInt8) (v:ByteArray) (h:q1z l=some (v,r)):∃ p,l=p++r/\p≠[]/\∀ r',r'.head?=r.head?->q1z (p++r')=some (v,r'):=by
 unfold q1z at h;by_cases h1:l.head?=some 34
 ·rw [if_pos h1] at h;cases l with
  | nil=>simp at h1
  | cons c l=>
   obtain rfl:c=34:=by simpa using h1
   rw [List.tail_cons] at h;cases hq:bS l [] with
   | none=>rw [hq] at h;cases h
   | some z=>
    obtain ⟨v1,r1⟩:=z;rw [hq] at h;simp only at h;by_cases h2:dG (dh v1)=true
    ·rw [if_pos h2] at h;injection h with h
     injection h with h3 h4
     subst h3 h4;obtain ⟨p,e1,e2,e3⟩:=rR _ l [] v1 r1 (Nat.le_refl _) hq;refine ⟨34::p,by rw [e1];rfl,by simp,fun r' _=>?_⟩;unfold q1z;rw [jG9,List.head?_cons,if_pos rfl,List.tail_cons,e3 r'];simp only;rw [if_pos h2]
    ·rw [if_neg h2] at h;cases h
 ·rw [if_neg h1] at h;by_cases h2:dU (dh (l.takeWhile iJ))=true
  ·rw [if_pos h2] at h;injection h with h
   injection h with h3 h4
   subst h3 h4;refine ⟨l.takeWhile iJ,(List.takeWhile_append_dropWhile).symm,qc _ h2,fun r' hr=>?_⟩;obtain ⟨k1,k2⟩:=xU iJ l r' hr;unfold q1z;have hh:(l.takeWhile iJ++r').head?=l.head?:=by
    cases l with
    | nil=>exact absurd rfl (qc _ h2)
    | cons c l=>
     have hne:=qc _ h2;rw [List.takeWhile_cons] at hne ⊢;cases hc:iJ c with
     | true=>simp
     | false=>rw [hc] at hne;simp at hne
   rw [hh,if_neg h1,k1,k2,if_pos h2]
  ·rw [if_neg h2] at h;cases h
theorem tZ (p r r':List UInt8) (h:p≠[]):(p++r).head?=(p++r').head?:=by
 cases p with
 | nil=>exact absurd rfl h
 | cons c p=>rfl
theorem D5 (a a':At) (l r:List UInt8) (h:kG a l=some (a',r)):∃ p,l=p++r/\p≠[]/\∀ r',r'.head?=r.head?->kG a (p++r')=some (a',r'):=by
 unfold kG at h;by_cases h1:dU (dh ((tL l).takeWhile iJ))=false
 ·rw [if_pos h1] at h;cases h
 rw [if_neg h1] at h;have h1':dU (dh ((tL l).takeWhile iJ))=true:=by simpa using h1
 have hN:=qc _ h1';by_cases h2:l.head?=some 35
 ·rw [if_pos h2] at h;by_cases h3:bq a.id=false
  ·rw [if_pos h3] at h;cases h
  rw [if_neg h3] at h;injection h with h
  injection h with e1 e2
  cases l with
  | nil=>simp at h2
  | cons c l=>
   obtain rfl:c=35:=by simpa using h2
   have hA:∀ x,tL (35::x)=x:=fun x=>by simp [tL]
   rw [hA] at e1 e2 h1 hN;refine ⟨35::l.takeWhile iJ,?_,by simp,fun r' hr=>?_⟩
   ·rw [<- e2,jG9,List.takeWhile_append_dropWhile]
   ·obtain ⟨k1,k2⟩:=xU iJ l r' (by rw [hr,e2]);unfold kG;rw [jG9,hA,k1,k2,if_neg h1,List.head?_cons,if_pos rfl,if_neg h3,e1]
 rw [if_neg h2] at h;by_cases h3:l.head?=some 46
 ·rw [if_pos h3] at h;by_cases h4:q22 a.cls (dh ((tL l).takeWhile iJ))=true
  ·rw [if_pos h4] at h;cases h
  rw [if_neg h4] at h;by_cases h5:32<=a.cls.length
  ·rw [if_pos h5] at h;cases h
  rw [if_neg h5] at h;injection h with h
  injection h with e1 e2
  cases l with
  | nil=>simp at h3
  | cons c l=>
   obtain rfl:c=46:=by simpa using h3
   have hA:∀ x,tL (46::x)=x:=fun x=>by simp [tL]
   rw [hA] at e1 e2 h1 hN h4;refine ⟨46::l.takeWhile iJ,?_,by simp,fun r' hr=>?_⟩
   ·rw [<- e2,jG9,List.takeWhile_append_dropWhile]
   ·obtain ⟨k1,k2⟩:=xU iJ l r' (by rw [hr,e2]);unfold kG;rw [jG9,hA,k1,k2,if_neg h1,List.head?_cons,if_neg (by decide),if_pos rfl,if_neg h4,if_neg h5,e1]
 rw [if_neg h3] at h;have hA:tL l=l:=by unfold tL;rw [if_neg (by rintro (h | h);exact h2 h;exact h3 h)]
 rw [hA] at h h1 hN;by_cases h4:(l.dropWhile iJ).head?=some 61
 ·rw [if_pos h4] at h;cases hv:q1z (l.dropWhile iJ).tail with
  | none=>rw [hv] at h;cases h
  | some z=>
   obtain ⟨v,r1⟩:=z;rw [hv] at h;simp only at h;by_cases h5:q22 (keysOf a) (dh (l.takeWhile iJ))=true
   ·rw [if_pos h5] at h;cases h
   rw [if_neg h5] at h;by_cases h6:32<=a.aF.length
   ·rw [if_pos h6] at h;cases h
   rw [if_neg h6] at h;injection h with h
   injection h with e1 e2
   subst e2;obtain ⟨p1,q1,q2,q3⟩:=LU _ _ _ hv;have hD:l.dropWhile iJ=61::(l.dropWhile iJ).tail:=by
    cases hd:l.dropWhile iJ with
    | nil=>rw [hd] at h4;simp at h4
    | cons c m=>
     rw [hd] at h4;obtain rfl:c=61:=by simpa using h4
     rfl
   refine ⟨l.takeWhile iJ++61::p1,?_,by simp,fun r' hr=>?_⟩
   ·rw [List.append_assoc,jG9,<- q1,<- hD,List.takeWhile_append_dropWhile]
   ·have hrr:(l.takeWhile iJ++61::p1)++r'=l.takeWhile iJ++(61::(p1++r')):=by simp
    obtain ⟨k1,k2⟩:=xU iJ l (61::(p1++r')) (by rw [h4];rfl);have hh:(l.takeWhile iJ++(61::(p1++r'))).head?=l.head?:=by
     conv=>rhs;rw [<- List.takeWhile_append_dropWhile (p:=iJ) (l:=l)]
     exact tZ _ _ _ hN
    have hA':tL (l.takeWhile iJ++(61::(p1++r')))=l.takeWhile iJ++(61::(p1++r')):=by unfold tL;rw [hh,if_neg (by rintro (h | h);exact h2 h;exact h3 h)]
    unfold kG;rw [hrr,hA',k1,k2,hh,if_neg h1,if_neg h2,if_neg h3,List.head?_cons,if_pos rfl,List.tail_cons,q3 r' hr];simp only;rw [if_neg h5,if_neg h6,e1]
 ·rw [if_neg h4] at h;cases h
theorem jgj{P:Prop}(h:P:=by
 rw [k1];have e:∀ x,p2++125::x=(p2++[125])++x:=fun x=>by simp
 rw [e r',e r];exact tZ _ _ _ (by simp)):P:=h
theorem Ap:∀ (f:Nat) (a a':At) (sep:Bool) (l r:List UInt8),wK f a sep l=some (a',r) -> ∃ p,l=p++125::r/\∀ r' f',p.length+r'.length+1<=f'->wK f' a sep (p++125::r')=some (a',r')
 | 0,a,a',sep,l,r,h=>by rw [wK] at h;cases h
 | f+1,a,a',sep,l,r,h=>by
  rw [wK] at h;by_cases h1:l.head?=some 125
  ·rw [if_pos h1] at h;injection h with h
   injection h with e1 e2
   subst e1 e2;cases l with
   | nil=>simp at h1
   | cons c l=>
    obtain rfl:c=125:=by simpa using h1
    refine ⟨[],rfl,fun r' f' hf=>?_⟩;obtain ⟨g,rfl⟩:∃ g,f'=g+1:=⟨f'-1,by omega⟩;rw [wK,List.nil_append,List.head?_cons,if_pos rfl];rfl
  rw [if_neg h1] at h;by_cases h2:l=[]\/sep=false
  ·rw [if_pos h2] at h;cases h
  rw [if_neg h2] at h;cases hi:kG a l with
  | none=>rw [hi] at h;cases h
  | some z=>
   obtain ⟨a1,l1⟩:=z;rw [hi] at h;simp only at h;obtain ⟨p1,q1,q2,q3⟩:=D5 _ _ _ _ hi;obtain ⟨p2,k1,k2⟩:=Ap f a1 a' _ _ r h;have hl1:l1=l1.takeWhile fu++(p2++125::r):=by rw [<- k1];exact (List.takeWhile_append_dropWhile).symm
   have hh:∀ r',(l1.takeWhile fu++(p2++125::r')).head?=l1.head?:=fun r'=>by
    conv=>rhs;rw [hl1]
    have e:∀ x,l1.takeWhile fu++(p2++125::x)=(l1.takeWhile fu++p2++[125])++x:=fun x=>by simp
    rw [e,e];exact tZ _ _ _ (by simp)
   have hs:∀ r',dn (l1.takeWhile fu++(p2++125::r'))=p2++125::r':=fun r'=>by
    refine (Ao fu _ _ (gV fu l1).1 (fun c hc=>(gV fu l1).2 c ?_)).2;rw [<- hc];show (dn l1).head?=_;exact jgj
   refine ⟨p1++l1.takeWhile fu++p2,?_,fun r' f' hf=>?_⟩
   ·rw [q1,List.append_assoc,List.append_assoc,<- hl1]
   ·obtain ⟨g,rfl⟩:∃ g,f'=g+1:=⟨f'-1,by omega⟩;have hp1:0<p1.length:=List.length_pos_iff.2 q2;have e:p1++l1.takeWhile fu++p2++125::r'=p1++(l1.takeWhile fu++(p2++125::r')):=by simp
    have hh2:(p1++(l1.takeWhile fu++(p2++125::r'))).head?=l.head?:=by rw [q1];exact tZ _ _ _ q2
    rw [e,wK,hh2,if_neg h1,if_neg,q3 _ (hh r')]
    ·simp only;rw [hh r',hs r'];refine k2 r' g ?_;simp only [List.length_append] at hf;omega
    ·rintro (h3 | h3)
     ·simp at h3
     ·exact h2 (.inr h3)
def gD (l:List UInt8):List UInt8:=(l.reverse.dropWhile fu).reverse
theorem D7 (p r:List UInt8) (hr:∀ c∈r,fu c=true) (hp:∀ c,p.getLast?=some c->fu c=false):gD (p++r)=p:=by unfold gD;rw [List.reverse_append,(Ao fu r.reverse p.reverse (fun c hc=>hr c (by simpa using hc)) (fun c hc=>hp c (by simpa using hc))).2,List.reverse_reverse]
theorem oI (l:List UInt8):∃ r,l=gD l++r/\∀ c∈r,fu c=true:=by refine ⟨(l.reverse.takeWhile fu).reverse,?_,fun c hc=>(gV fu l.reverse).1 c (by simpa using hc)⟩;unfold gD;rw [<- List.reverse_append,List.takeWhile_append_dropWhile,List.reverse_reverse]
theorem Aq (l r:List UInt8) (a:At) (h:Cc l=some (a,r)):∃ p,l=p++125::r/\∀ r',Cc (p++125::r')=some (a,r'):=by
 unfold Cc at h;by_cases h1:l.head?=some 123
 ·rw [if_pos h1] at h;cases l with
  | nil=>simp at h1
  | cons c l=>
   obtain rfl:c=123:=by simpa using h1
   rw [List.tail_cons] at h;obtain ⟨p2,k1,k2⟩:=Ap _ _ _ _ _ _ h;have hl:l=l.takeWhile fu++(p2++125::r):=by rw [<- k1];exact (List.takeWhile_append_dropWhile).symm
   have hs:∀ r',dn (l.takeWhile fu++(p2++125::r'))=p2++125::r':=fun r'=>by
    refine (Ao fu _ _ (gV fu l).1 (fun c hc=>(gV fu l).2 c ?_)).2;rw [<- hc];show (dn l).head?=_;exact jgj
   refine ⟨123::(l.takeWhile fu++p2),?_,fun r'=>?_⟩
   ·conv=>lhs;rw [hl]
    simp
   ·have e:123::(l.takeWhile fu++p2)++125::r'=123::(l.takeWhile fu++(p2++125::r')):=by simp
    unfold Cc;rw [e,List.head?_cons,if_pos rfl,List.tail_cons,hs r'];refine k2 r' _ ?_;simp;omega
 ·rw [if_neg h1] at h;cases h
def rT (l:List UInt8):Bool:=match Cc l with
 | none=>false
 | some (_,r)=>r.all fu
def Lr (l:List UInt8):Bool:=match Cc (gD l) with
 | none=>false
 | some (_,r)=>r.isEmpty
theorem Ce (l:List UInt8):rT l=Lr l:=by
 rw [jFz];unfold rT Lr;constructor
 ·intro h;cases hp:Cc l with
  | none=>rw [hp] at h;cases h
  | some z=>
   obtain ⟨a,r⟩:=z;rw [hp] at h;simp only at h;obtain ⟨p,e1,e2⟩:=Aq _ _ _ hp;have ht:gD l=p++[125]:=by
    have e:l=(p++[125])++r:=by rw [e1];simp
    rw [e];refine D7 _ _ (List.all_eq_true.1 h) (fun c hc=>?_);simp at hc;subst hc;decide
   rw [ht,e2 []];rfl
 ·intro h;cases hp:Cc (gD l) with
  | none=>rw [hp] at h;cases h
  | some z=>
   obtain ⟨a,r⟩:=z;rw [hp] at h;simp only at h;obtain rfl:r=[]:=by simpa using h
   obtain ⟨p,e1,e2⟩:=Aq _ _ _ hp;obtain ⟨sp,k1,k2⟩:=oI l;have e:l=p++125::sp:=by rw [k1,e1];simp
   rw [e,e2 sp];exact List.all_eq_true.2 k2
def gF (l:List UInt8):Bool:=
 decide ((l.takeWhile fu).length<=3)&&decide ((dn l).take 2=[36,36])&&((dn ((dn l).drop 2)).isEmpty||rT (dn ((dn l).drop 2)))
def jN:List UInt8->List UInt8->List (List UInt8)
 | _,[]=>[]
 | acc,c::l=>if c=10 then acc::jN [] l else jN (acc++[c]) l
def gG (s:ByteArray):Bool:=(jN [] s.data.toList).any gF
end Go.Proofs.YtklhajbpfelliaaGreatDoor

