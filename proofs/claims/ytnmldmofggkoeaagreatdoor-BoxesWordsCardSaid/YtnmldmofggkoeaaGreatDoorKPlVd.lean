/- Plain part: the errors of layer 4: what is not well-formed in inlines and blocks. Plain part: merged inlines: what Merge returns; it keeps the plain text, and changes nothing the second time, nor a line without errors. Plain part: groups of texts in Merge. Plain part: clean texts one after the other are clean. -/
import Derived.Test.YtnmldmofggkoeaaGreatDoorKSame
import Derived.Test.YtnmldmofggkoeaaGreatDoorKRowE
namespace Go.Proofs.YtnmldmofggkoeaaGreatDoor
set_option linter.unusedVariables false
set_option linter.unusedSimpArgs false
def vF (p:Nat × Nat):Bool:=(decide (p.1=10)||(decide (32<=p.1)&&!decide (p.1=127)))&&!(decide (p.1=65533)&&decide (p.2=1))
def dx (s:ByteArray):Bool:=(pts s).all vF
def KG (s:ByteArray):Bool:=s.data.toList.all fun c=>!decide (c=10)
def gL (s:ByteArray):Bool:=dx s&&KG s
def trimS (s:ByteArray):Bool:=decide (s.data.toList=[])||(!decide (s.data.toList.head?=some 32)&&!decide (s.data.toList.getLast?=some 32))
def bJ (s:ByteArray) (bs:List UInt8):Bool:=s.data.toList.any fun c=>bs.contains c
def oP (p:Nat × Nat):Bool:=kX p.1||Ee p.1||[32,45,95,46,58].contains p.1
def bX (s:ByteArray):Bool:=decide (1<=s.size)&&decide (s.size<=60)&&decide (qL s=s)&&(pts s).all oP
def dR (s:ByteArray):Bool:=decide (s.data.toList=[])
def At.none (a:At):Bool:=dR a.id&&a.cls.isEmpty&&a.aT.isEmpty
def qm (seen:List ByteArray):List ByteArray->Nat
 | []=>0
 | c::l=>if lJ c=false then 6 else if hasB seen c=true then 7 else qm (seen++[c]) l
def bM (seen:List ByteArray):List Pr->Nat
 | []=>0
 | p::l=>if lJ p.key=false then 6 else if gL p.val=false then 17 else if hasB seen p.key=true then 7 else bM (seen++[p.key]) l
def At.err (a:At):Nat:=
 if dR a.id=false/\lJ a.id=false then 6
 else if qm [] a.cls≠0 then qm [] a.cls
 else if bM [] a.aT≠0 then bM [] a.aT
 else if 32<a.cls.length\/32<a.aT.length then 3 else 0
mutual
def ah.E8 (ks:List Int):ah->Bool
 | .mk k _ _ _ _ _ _ kids=>ks.contains k||ah.bK ks kids
def ah.bK (ks:List Int):List ah->Bool
 | []=>false
 | x::l=>x.E8 ks||ah.bK ks l
end
def kZ:List Int:=[9,16,12,14,13]
def gH:List Int:=[2,3]
def zM (k:Int) (t d ti:ByteArray) (a:At) (ar:List ByteArray) (ci:List Ci) (ks:List ah):Bool:=
 decide (1<=k)&&decide (k<=16)&&(([1,4,5,9,10,12,14,15]:List Int).contains k||dR t)&&(([9,10,16]:List Int).contains k||dR d)&&(([9,10,14]:List Int).contains k||dR ti) &&
 (([10,11]:List Int).contains k||a.none)&&(([6,7,8,9,10,11]:List Int).contains k||ks.isEmpty)&&(decide (k=15)||ar.isEmpty)&&(decide (k=13)||ci.isEmpty)
def gX (s:ByteArray):Nat:=(s.data.toList.takeWhile fun c=>fQ c.toNat).length
def oW (s:ByteArray):Bool:=decide (2<=gX s)&&decide (gX s<=20)&&decide (s.data.toList[gX s]?=some 58)&&gL s&&!bJ s [32,60,62]
def jh (s:ByteArray):Bool:=!gL s||!trimS s||bJ s [91,93,59,64,123,36,96]
def gY:List Ci->Nat
 | []=>0
 | c::l=>if lJ c.key=false then 6 else if jh c.pre=true\/jh c.suf=true then 17 else gY l
def gF (l:List Ci):Nat:=if l.isEmpty=true then 8 else gY l
def eD (k:Int) (t d ti:ByteArray) (a:At) (ks:List ah):Nat:=
 if dR t=false/\(dR d=false\/dR ti=false) then 5
 else if dR t=false/\bX t=false then 6
 else if gL d=false\/gL ti=false then 17
 else if k=9/\ah.bK kZ ks=true then 5
 else if k=10 then a.err else 0
def eU (s:ByteArray):Bool:=!gL s||bJ s [124,123,125]
def vS:List UInt8:=[112,97,103,101]
def gG (k:Int) (t ti:ByteArray) (ar:List ByteArray):Nat:=
 if lJ t=false then 6
 else if k=14/\dR ti=false/\ti.data.toList≠vS then 5
 else if 8<ar.length then 3
 else if ar.any eU then 17 else 0
def rF (before:Int) (first last:Bool) (k:Int) (t d ti:ByteArray) (a:At) (ar:List ByteArray) (ci:List Ci) (ks:List ah):Nat:=
 if zM k t d ti a ar ci ks=false then 5
 else if k=1\/k=4\/k=5 then (if dR t=true\/gL t=false then 17 else if k≠5/\before=k then 5 else 0)
 else if k=2 then (if before=2\/before=3\/first=true\/last=true then 5 else 0)
 else if k=3 then (if last=true then 5 else 0)
 else if k=6\/k=7\/k=8 then (if ks.isEmpty=true then 8 else 0)
 else if k=9\/k=10 then eD k t d ti a ks
 else if k=11 then (if a.none=true then 8 else a.err)
 else if k=12\/k=14\/k=15 then gG k t ti ar
 else if k=13 then gF ci
 else if oW d=true then 0 else 5
def ah.kd:ah->Int
 | .mk k _ _ _ _ _ _ _=>k
mutual
def ah.err (before:Int) (first last:Bool) (dp:Nat):ah->Nat
 | .mk k t d ti a ar ci ks=>if rF before first last k t d ti a ar ci ks≠0 then rF before first last k t d ti a ar ci ks else ah.aN 0 true (dp+1) ks
def ah.aN (before:Int) (st:Bool) (dp:Nat):List ah->Nat
 | []=>0
 | x::l=>if 15<dp then 11 else if x.err before (decide (dp=0)&&st) (decide (dp=0)&&l.isEmpty) dp≠0 then x.err before (decide (dp=0)&&st) (decide (dp=0)&&l.isEmpty) dp
   else ah.aN x.kd false dp l
end
def bE (l:List ah):Nat:=ah.aN 0 true 0 l
def D9 (k lv:Int) (i t d ti:ByteArray) (a:At) (li:List ah) (ks:List aj):Bool:=
 decide (1<=k)&&decide (k<=15)&&(([2,8]:List Int).contains k||decide (lv=0))&&(([3,10,13,14,15]:List Int).contains k||dR i)&&(([3,4]:List Int).contains k||dR t) &&
 (decide (k=15)||(dR d&&dR ti))&&(([2,4,13]:List Int).contains k||a.none)&&(([1,2,12]:List Int).contains k||li.isEmpty)&&(([6,7,8,9,10,11,13,14]:List Int).contains k||ks.isEmpty)
def jf (k par:Int):Bool:=
 if par=7\/par=8 then decide (k=9) else if par=10 then decide (k=11) else if par=11 then decide (k=12) else !([9,11,12]:List Int).contains k
def mI (s:ByteArray):Bool:=dR s||(dx s&&decide (s.data.toList.getLast?=some 10))
def aj.vU:aj->Nat
 | .mk _ _ _ _ _ _ _ _ ks=>ks.length
def gI (i:ByteArray) (ks:List aj):Nat:=
 if 32<i.size then 3 else if dR i=true then 5 else if i.data.toList.any (fun c=>!([45,108,99,114]:List UInt8).contains c) then 5
 else if ks.isEmpty=true then 8 else if ks.any (fun b=>!decide (b.vU=i.size)) then 15 else 0
def dA (cl:ByteArray->Bool) (k lv:Int) (i t d ti:ByteArray) (a:At) (li:List ah) (ks:List aj):Nat:=
 if k=1 then (if li.isEmpty=true then 8 else bE li)
 else if k=2 then (if lv<1\/6<lv then 9 else if a.err≠0 then a.err else if ah.bK gH li=true then 5 else bE li)
 else if k=12 then (if ah.bK gH li=true then 5 else bE li)
 else if k=3 then (if gL i=false\/trimS i=false\/mI t=false then 17 else 0)
 else if k=4 then (if mI t=false then 17 else if cl t=true then 5 else a.err)
 else if k=7\/k=8 then (if ks.isEmpty=true then 8 else if k=8/\(lv<0\/999999999<lv) then 9 else 0)
 else if k=10 then gI i ks
 else if k=13\/k=14 then (if lJ i=false then 6 else a.err)
 else if k=15 then (if bX i=false then 6 else if gL d=false\/gL ti=false then 17 else 0)
 else 0
mutual
def aj.err (cl:ByteArray->Bool) (par:Int) (dp:Nat):aj->Nat
 | .mk k lv i t d ti a li ks=>if 15<dp then 11 else if D9 k lv i t d ti a li ks=false\/jf k par=false then 5
   else if dA cl k lv i t d ti a li ks≠0 then dA cl k lv i t d ti a li ks else aj.aN cl k (dp+1) ks
def aj.aN (cl:ByteArray->Bool) (par:Int) (dp:Nat):List aj->Nat
 | []=>0
 | x::l=>if x.err cl par dp≠0 then x.err cl par dp else aj.aN cl par dp l
end
def bD (seen:List ByteArray):List Pr->Nat
 | []=>0
 | p::l=>if lJ p.key=false then 6 else if gL p.val=false\/trimS p.val=false then 17 else if hasB seen p.key=true then 7 else bD (seen++[p.key]) l
def Lv (s:ByteArray):Prop:=∀ c∈s.data.toList,32<=c.toNat/\c.toNat<127
theorem Ag (s:ByteArray) (h:Lv s):∀ (f i:Nat),(je s f i).all vF=true
 | 0,_=>rfl
 | f+1,i=>by
  rw [je];split
  ·rename_i hi
   have hm:s[i]∈s.data.toList:=by
    have:s[i]=s.data.toList[i]'(by simpa using hi):=by show s.data[i]=_;simp
    rw [this];exact List.getElem_mem _
   obtain ⟨h1,h2⟩:=h _ hm;rw [decode_ascii s i hi (by omega),List.all_cons,Ag s h f];simp [vF];omega
  ·rfl
theorem EW (s:ByteArray) (h:Lv s):gL s=true:=by unfold gL dx pts;rw [Ag s h,Bool.true_and];unfold KG;rw [List.all_eq_true];intro c hc;have:=(h c hc).1;simp;intro e;rw [e] at this;simp at this
end Go.Proofs.YtnmldmofggkoeaaGreatDoor

