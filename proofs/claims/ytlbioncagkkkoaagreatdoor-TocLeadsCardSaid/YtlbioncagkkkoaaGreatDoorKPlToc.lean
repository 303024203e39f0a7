/- Plain part: the errors of layer 4: what is not well-formed in inlines and blocks. Plain part: merged inlines: what Merge returns; it keeps the plain text, and changes nothing the second time, nor a line without errors. Plain part: groups of texts in Merge. Plain part: clean texts one after the other are clean. Plain part: entry lines, as the program and as the reference make them. -/
import Derived.Test.YtlbioncagkkkoaaGreatDoorKRFoldR
import Derived.Test.YtlbioncagkkkoaaGreatDoorKName
import Derived.Test.YtlbioncagkkkoaaGreatDoorKWeight
import Derived.Test.YtlbioncagkkkoaaGreatDoorKTcM
import Derived.Lib.TrimUEq
import Derived.Lib.DecodeN
import Derived.Lib.RuneCount
import Derived.Laws.RangeString
namespace Go.Proofs.YtlbioncagkkkoaaGreatDoor
set_option linter.unusedVariables false
set_option linter.unusedSimpArgs false
def okPt (p:Nat × Nat):Bool:=(decide (p.1=10)||(decide (32<=p.1)&&!decide (p.1=127)))&&!(decide (p.1=65533)&&decide (p.2=1))
def q29 (s:ByteArray):Bool:=(pts s).all okPt
def noLF (s:ByteArray):Bool:=s.data.toList.all fun c=>!decide (c=10)
def q0d (s:ByteArray):Bool:=q29 s&&noLF s
def trimS (s:ByteArray):Bool:=decide (s.data.toList=[])||(!decide (s.data.toList.head?=some 32)&&!decide (s.data.toList.getLast?=some 32))
def q0r (s:ByteArray) (bs:List UInt8):Bool:=s.data.toList.any fun c=>bs.contains c
def labPt (p:Nat × Nat):Bool:=letterC p.1||digC p.1||[32,45,95,46,58].contains p.1
def q1i (s:ByteArray):Bool:=decide (1<=s.size)&&decide (s.size<=60)&&decide (foldS s=s)&&(pts s).all labPt
def q06 (s:ByteArray):Bool:=decide (s.data.toList=[])
def At.none (a:At):Bool:=q06 a.id&&a.cls.isEmpty&&a.prs.isEmpty
def q1e (seen:List ByteArray):List ByteArray->Nat
 | []=>0
 | c::l=>if q0a c=false then 6 else if q1d seen c=true then 7 else q1e (seen++[c]) l
def q0u (seen:List ByteArray):List Pr->Nat
 | []=>0
 | p::l=>if q0a p.key=false then 6 else if q0d p.val=false then 17 else if q1d seen p.key=true then 7 else q0u (seen++[p.key]) l
def At.err (a:At):Nat:=
 if q06 a.id=false/\q0a a.id=false then 6
 else if q1e [] a.cls≠0 then q1e [] a.cls
 else if q0u [] a.prs≠0 then q0u [] a.prs
 else if 32<a.cls.length\/32<a.prs.length then 3 else 0
mutual
def Inl.anyK (ks:List Int):Inl->Bool
 | .mk k _ _ _ _ _ _ kids=>ks.contains k||Inl.anyL ks kids
def Inl.anyL (ks:List Int):List Inl->Bool
 | []=>false
 | x::l=>x.anyK ks||Inl.anyL ks l
end
def refKinds:List Int:=[9,16,12,14,13]
def brkKinds:List Int:=[2,3]
def q0b (k:Int) (t d ti:ByteArray) (a:At) (ar:List ByteArray) (ci:List Ci) (ks:List Inl):Bool:=
 decide (1<=k)&&decide (k<=16)&&(([1,4,5,9,10,12,14,15]:List Int).contains k||q06 t)&&(([9,10,16]:List Int).contains k||q06 d)&&(([9,10,14]:List Int).contains k||q06 ti) &&
 (([10,11]:List Int).contains k||a.none)&&(([6,7,8,9,10,11]:List Int).contains k||ks.isEmpty)&&(decide (k=15)||ar.isEmpty)&&(decide (k=13)||ci.isEmpty)
def ltrRun (s:ByteArray):Nat:=(s.data.toList.takeWhile fun c=>ltrC c.toNat).length
def autoS (s:ByteArray):Bool:=decide (2<=ltrRun s)&&decide (ltrRun s<=20)&&decide (s.data.toList[ltrRun s]?=some 58)&&q0d s&&!q0r s [32,60,62]
def citBad (s:ByteArray):Bool:=!q0d s||!trimS s||q0r s [91,93,59,64,123,36,96]
def cisErr:List Ci->Nat
 | []=>0
 | c::l=>if q0a c.key=false then 6 else if citBad c.pre=true\/citBad c.suf=true then 17 else cisErr l
def q2i (l:List Ci):Nat:=if l.isEmpty=true then 8 else cisErr l
def q1m (k:Int) (t d ti:ByteArray) (a:At) (ks:List Inl):Nat:=
 if q06 t=false/\(q06 d=false\/q06 ti=false) then 5
 else if q06 t=false/\q1i t=false then 6
 else if q0d d=false\/q0d ti=false then 17
 else if k=9/\Inl.anyL refKinds ks=true then 5
 else if k=10 then a.err else 0
def q1q (s:ByteArray):Bool:=!q0d s||q0r s [124,123,125]
def pageL:List UInt8:=[112,97,103,101]
def q2j (k:Int) (t ti:ByteArray) (ar:List ByteArray):Nat:=
 if q0a t=false then 6
 else if k=14/\q06 ti=false/\ti.data.toList≠pageL then 5
 else if 8<ar.length then 3
 else if ar.any q1q then 17 else 0
def q0l (before:Int) (first last:Bool) (k:Int) (t d ti:ByteArray) (a:At) (ar:List ByteArray) (ci:List Ci) (ks:List Inl):Nat:=
 if q0b k t d ti a ar ci ks=false then 5
 else if k=1\/k=4\/k=5 then (if q06 t=true\/q0d t=false then 17 else if k≠5/\before=k then 5 else 0)
 else if k=2 then (if before=2\/before=3\/first=true\/last=true then 5 else 0)
 else if k=3 then (if last=true then 5 else 0)
 else if k=6\/k=7\/k=8 then (if ks.isEmpty=true then 8 else 0)
 else if k=9\/k=10 then q1m k t d ti a ks
 else if k=11 then (if a.none=true then 8 else a.err)
 else if k=12\/k=14\/k=15 then q2j k t ti ar
 else if k=13 then q2i ci
 else if autoS d=true then 0 else 5
def Inl.kd:Inl->Int
 | .mk k _ _ _ _ _ _ _=>k
mutual
def Inl.err (before:Int) (first last:Bool) (dp:Nat):Inl->Nat
 | .mk k t d ti a ar ci ks=>if q0l before first last k t d ti a ar ci ks≠0 then q0l before first last k t d ti a ar ci ks else Inl.errL 0 true (dp+1) ks
def Inl.errL (before:Int) (st:Bool) (dp:Nat):List Inl->Nat
 | []=>0
 | x::l=>if 15<dp then 11 else if x.err before (decide (dp=0)&&st) (decide (dp=0)&&l.isEmpty) dp≠0 then x.err before (decide (dp=0)&&st) (decide (dp=0)&&l.isEmpty) dp
   else Inl.errL x.kd false dp l
end
def q18 (l:List Inl):Nat:=Inl.errL 0 true 0 l
def q0q (k lv:Int) (i t d ti:ByteArray) (a:At) (li:List Inl) (ks:List Blk):Bool:=
 decide (1<=k)&&decide (k<=15)&&(([2,8]:List Int).contains k||decide (lv=0))&&(([3,10,13,14,15]:List Int).contains k||q06 i)&&(([3,4]:List Int).contains k||q06 t) &&
 (decide (k=15)||(q06 d&&q06 ti))&&(([2,4,13]:List Int).contains k||a.none)&&(([1,2,12]:List Int).contains k||li.isEmpty)&&(([6,7,8,9,10,11,13,14]:List Int).contains k||ks.isEmpty)
def placeB (k par:Int):Bool:=
 if par=7\/par=8 then decide (k=9) else if par=10 then decide (k=11) else if par=11 then decide (k=12) else !([9,11,12]:List Int).contains k
def bodyS (s:ByteArray):Bool:=q06 s||(q29 s&&decide (s.data.toList.getLast?=some 10))
def Blk.kidN:Blk->Nat
 | .mk _ _ _ _ _ _ _ _ ks=>ks.length
def q2k (i:ByteArray) (ks:List Blk):Nat:=
 if 32<i.size then 3 else if q06 i=true then 5 else if i.data.toList.any (fun c=>!([45,108,99,114]:List UInt8).contains c) then 5
 else if ks.isEmpty=true then 8 else if ks.any (fun b=>!decide (b.kidN=i.size)) then 15 else 0
def q1z (cl:ByteArray->Bool) (k lv:Int) (i t d ti:ByteArray) (a:At) (li:List Inl) (ks:List Blk):Nat:=
 if k=1 then (if li.isEmpty=true then 8 else q18 li)
 else if k=2 then (if lv<1\/6<lv then 9 else if a.err≠0 then a.err else if Inl.anyL brkKinds li=true then 5 else q18 li)
 else if k=12 then (if Inl.anyL brkKinds li=true then 5 else q18 li)
 else if k=3 then (if q0d i=false\/trimS i=false\/bodyS t=false then 17 else 0)
 else if k=4 then (if bodyS t=false then 17 else if cl t=true then 5 else a.err)
 else if k=7\/k=8 then (if ks.isEmpty=true then 8 else if k=8/\(lv<0\/999999999<lv) then 9 else 0)
 else if k=10 then q2k i ks
 else if k=13\/k=14 then (if q0a i=false then 6 else a.err)
 else if k=15 then (if q1i i=false then 6 else if q0d d=false\/q0d ti=false then 17 else 0)
 else 0
mutual
def Blk.err (cl:ByteArray->Bool) (par:Int) (dp:Nat):Blk->Nat
 | .mk k lv i t d ti a li ks=>if 15<dp then 11 else if q0q k lv i t d ti a li ks=false\/placeB k par=false then 5
   else if q1z cl k lv i t d ti a li ks≠0 then q1z cl k lv i t d ti a li ks else Blk.errL cl k (dp+1) ks
def Blk.errL (cl:ByteArray->Bool) (par:Int) (dp:Nat):List Blk->Nat
 | []=>0
 | x::l=>if x.err cl par dp≠0 then x.err cl par dp else Blk.errL cl par dp l
end
def metErr (seen:List ByteArray):List Pr->Nat
 | []=>0
 | p::l=>if q0a p.key=false then 6 else if q0d p.val=false\/trimS p.val=false then 17 else if q1d seen p.key=true then 7 else metErr (seen++[p.key]) l
def Inl.tx:Inl->ByteArray
 | .mk _ t _ _ _ _ _ _=>t
def Inl.setTx:Inl->ByteArray->Inl
 | .mk k _ d ti a ar ci ks,t=>.mk k t d ti a ar ci ks
def addM (out:List Inl) (x:Inl):List Inl:=
 if x.kd=1 then
  if q06 x.tx=true then out
  else match out.getLast? with
   | some y=>if y.kd=1 then out.dropLast++[y.setTx (y.tx++x.tx)] else out++[x]
   | none=>out++[x]
 else out++[x]
mutual
def Inl.mergeX:Inl->Inl
 | .mk k t d ti a ar ci ks=>.mk k t d ti a ar ci (Inl.mergeA [] ks)
def Inl.mergeA (out:List Inl):List Inl->List Inl
 | []=>out
 | x::l=>Inl.mergeA (addM out x.mergeX) l
end
def Inl.mergeL (l:List Inl):List Inl:=Inl.mergeA [] l
theorem Inl.mergeX_kd (x:Inl):x.mergeX.kd=x.kd:=by cases x;rw [Inl.mergeX];rfl
theorem Inl.mergeX_tx (x:Inl):x.mergeX.tx=x.tx:=by cases x;rw [Inl.mergeX];rfl
theorem Inl.mergeA_app:∀ (l m out:List Inl),Inl.mergeA out (l++m)=Inl.mergeA (Inl.mergeA out l) m
 | [],m,out=>by rw [List.nil_append];conv=>rhs;rw [Inl.mergeA]
 | x::l,m,out=>by rw [List.cons_append,Inl.mergeA,Inl.mergeA_app l m,Inl.mergeA]
theorem Inl.mergeA_snoc (l:List Inl) (k:Nat) (x:Inl) (out:List Inl) (h:l[k]?=some x):Inl.mergeA out (l.take (k+1))=addM (Inl.mergeA out (l.take k)) x.mergeX:=by
 rw [List.take_add_one,h,Inl.mergeA_app]
 simp [Inl.mergeA]
theorem q1s {α:Type} {l:List α} {y:α} (h:l.getLast?=some y):l=l.dropLast++[y]:=by
 obtain ⟨ys,rfl⟩:=List.getLast?_eq_some_iff.1 h
 simp
mutual
def Inl.nf:Inl->Prop
 | .mk _ _ _ _ _ _ _ ks=>Inl.nfL false ks
def Inl.nfL (p:Bool):List Inl->Prop
 | []=>True
 | x::l=>x.nf/\(x.kd=1->q06 x.tx=false/\p=false)/\Inl.nfL (decide (x.kd=1)) l
end
def last1 (p:Bool) (l:List Inl):Bool:=match l.getLast? with | some x=>decide (x.kd=1) | none=>p
theorem last1_cons (p:Bool) (x:Inl) (l:List Inl):last1 p (x::l)=last1 (decide (x.kd=1)) l:=by
 unfold last1
 cases l with
 | nil=>rfl
 | cons y l=>rw [List.getLast?_cons_cons];cases h:(y::l).getLast? with
  | none=>simp at h
  | some z=>rfl
theorem Inl.nfL_snoc:∀ (l:List Inl) (p:Bool) (x:Inl),Inl.nfL p (l++[x])↔Inl.nfL p l/\x.nf/\(x.kd=1->q06 x.tx=false/\last1 p l=false)
 | [],p,x=>by rw [List.nil_append,Inl.nfL,Inl.nfL,Inl.nfL];simp [last1]
 | y::l,p,x=>by
  rw [List.cons_append,Inl.nfL,Inl.nfL,Inl.nfL_snoc l,last1_cons]
  constructor
  ·rintro ⟨h1,h2,h3,h4,h5⟩;exact ⟨⟨h1,h2,h3⟩,h4,h5⟩
  ·rintro ⟨⟨h1,h2,h3⟩,h4,h5⟩;exact ⟨h1,h2,h3,h4,h5⟩
theorem nf_setTx (x:Inl) (t:ByteArray) (h:x.nf):(x.setTx t).nf:=by cases x;unfold Inl.setTx;unfold Inl.nf at h ⊢;exact h
theorem empty_app (a b:ByteArray) (h:q06 a=false):q06 (a++b)=false:=by
 unfold q06 at h ⊢
 simp at h ⊢
 intro e
 exact absurd e h
theorem nf_addM (out:List Inl) (x:Inl) (ho:Inl.nfL false out) (hx:x.nf):Inl.nfL false (addM out x):=by
 unfold addM
 by_cases h1:x.kd=1
 ·rw [if_pos h1]
  by_cases h2:q06 x.tx=true
  ·rw [if_pos h2];exact ho
  ·rw [if_neg h2]
   have h2:q06 x.tx=false:=by simpa using h2
   cases hl:out.getLast? with
   | none=>
    simp only
    exact (Inl.nfL_snoc out false x).2 ⟨ho,hx,fun _=>⟨h2,by unfold last1;rw [hl]⟩⟩
   | some y=>
    simp only
    by_cases h3:y.kd=1
    ·rw [if_pos h3]
     rw [q1s hl] at ho
     obtain ⟨k1,k2,k3⟩:=(Inl.nfL_snoc _ _ _).1 ho
     refine (Inl.nfL_snoc _ _ _).2 ⟨k1,nf_setTx y _ k2,fun _=>⟨?_,(k3 h3).2⟩⟩
     have:(y.setTx (y.tx++x.tx)).tx=y.tx++x.tx:=by cases y;rfl
     rw [this]
     exact empty_app _ _ (k3 h3).1
    ·rw [if_neg h3]
     exact (Inl.nfL_snoc out false x).2 ⟨ho,hx,fun _=>⟨h2,by unfold last1;rw [hl];simpa using h3⟩⟩
 ·rw [if_neg h1]
  exact (Inl.nfL_snoc out false x).2 ⟨ho,hx,fun h=>absurd h h1⟩
mutual
theorem Inl.nf_mergeX:∀ (x:Inl),x.mergeX.nf
 | .mk k t d ti a ar ci ks=>by rw [Inl.mergeX];unfold Inl.nf;exact Inl.nf_mergeA ks [] (by unfold Inl.nfL;trivial)
theorem Inl.nf_mergeA:∀ (l out:List Inl),Inl.nfL false out->Inl.nfL false (Inl.mergeA out l)
 | [],out,h=>by rw [Inl.mergeA];exact h
 | x::l,out,h=>by rw [Inl.mergeA];exact Inl.nf_mergeA l _ (nf_addM out _ h (Inl.nf_mergeX x))
end
mutual
theorem Inl.mergeX_nf:∀ (x:Inl),x.nf->x.mergeX=x
 | .mk k t d ti a ar ci ks,h=>by
  unfold Inl.nf at h
  rw [Inl.mergeX,Inl.mergeA_nf ks [] h,List.nil_append]
theorem Inl.mergeA_nf:∀ (l out:List Inl),Inl.nfL (last1 false out) l->Inl.mergeA out l=out++l
 | [],out,h=>by rw [Inl.mergeA,List.append_nil]
 | x::l,out,h=>by
  unfold Inl.nfL at h
  obtain ⟨h1,h2,h3⟩:=h
  rw [Inl.mergeA,Inl.mergeX_nf x h1]
  have e:addM out x=out++[x]:=by
   unfold addM
   by_cases k1:x.kd=1
   ·obtain ⟨k2,k3⟩:=h2 k1
    rw [if_pos k1,if_neg (by simp [k2])]
    unfold last1 at k3
    cases hl:out.getLast? with
    | none=>rfl
    | some y=>
     rw [hl] at k3
     simp only at k3 ⊢
     rw [if_neg (by simpa using k3)]
   ·rw [if_neg k1]
  rw [e,Inl.mergeA_nf l _ (by
   have:last1 false (out++[x])=decide (x.kd=1):=(by unfold last1;rw [List.getLast?_append];rfl)
   rw [this];exact h3),List.append_assoc]
  rfl
end
theorem Inl.set_set (x:Inl) (a b:ByteArray):(x.setTx a).setTx b=x.setTx b:=by cases x;rfl
theorem Inl.set_tx (x:Inl) (a:ByteArray):(x.setTx a).tx=a:=by cases x;rfl
theorem Inl.set_kd (x:Inl) (a:ByteArray):(x.setTx a).kd=x.kd:=by cases x;rfl
theorem Inl.set_self (x:Inl):x.setTx x.tx=x:=by cases x;rfl
theorem addM_not (out:List Inl) (x:Inl) (h:x.kd≠1):addM out x=out++[x]:=by unfold addM;rw [if_neg h]
theorem addM_empty (out:List Inl) (x:Inl) (h:x.kd=1) (h2:q06 x.tx=true):addM out x=out:=by unfold addM;rw [if_pos h,if_pos h2]
theorem addM_first (out:List Inl) (x:Inl) (h:x.kd=1) (h2:q06 x.tx=false) (hl:∀ y,out.getLast?=some y->y.kd≠1):addM out x=out++[x]:=by
 unfold addM
 rw [if_pos h,if_neg (by rw [h2];decide)]
 cases hl2:out.getLast? with
 | none=>rfl
 | some y=>simp only;rw [if_neg (hl y hl2)]
theorem addM_join (out:List Inl) (f x:Inl) (hf:f.kd=1) (h:x.kd=1) (h2:q06 x.tx=false):addM (out++[f]) x=out++[f.setTx (f.tx++x.tx)]:=by
 unfold addM
 rw [if_pos h,if_neg (by rw [h2];decide)]
 simp [hf]
def Grp (l out:List Inl) (j:Nat) (fi:Int) (c:ByteArray):Prop:=
 (fi=-1/\Inl.mergeL (l.take j)=out/\c.data.toList=[]) \/
 ∃ f:Nat,fi=f/\f<j/\∃ x,l[f]?=some x/\x.kd=1/\Inl.mergeL (l.take j)=out++[x.mergeX.setTx c]/\c.data.toList≠[]
theorem Grp.start (l:List Inl) (k:Nat):Grp l (Inl.mergeL (l.take k)) k (-1) ⟨#[]⟩:=.inl ⟨rfl,rfl,rfl⟩
theorem mergeL_snoc {l:List Inl} {k:Nat} {x:Inl} (h:l[k]?=some x):Inl.mergeL (l.take (k+1))=addM (Inl.mergeL (l.take k)) x.mergeX:=Inl.mergeA_snoc l k x [] h
theorem empty_bytes {t:ByteArray} (h:q06 t=true):t.data.toList=[]:=by simpa [q06] using h
theorem app_empty {c t:ByteArray} (h:q06 t=true):c++t=c:=by
 have:=empty_bytes h
 apply ByteArray.ext
 rw [ByteArray.data_append]
 apply Array.toList_inj.1
 rw [Array.toList_append,this,List.append_nil]
theorem nil_app0 {c t:ByteArray} (h:c.data.toList=[]):c++t=t:=by
 apply ByteArray.ext
 rw [ByteArray.data_append]
 apply Array.toList_inj.1
 rw [Array.toList_append,h,List.nil_append]
theorem app_ne {c t:ByteArray} (h:q06 t=false):(c++t).data.toList≠[]:=by
 rw [ByteArray.data_append,Array.toList_append]
 intro e
 have:=(List.append_eq_nil_iff.1 e).2
 simp [q06,this] at h
theorem Grp.skip {l out:List Inl} {j:Nat} {fi:Int} {c:ByteArray} {x:Inl} (h:Grp l out j fi c) (hx:l[j]?=some x) (h1:x.kd=1) (h2:q06 x.tx=true):Grp l out (j+1) fi (c++x.tx):=by
 have hm:Inl.mergeL (l.take (j+1))=Inl.mergeL (l.take j):=by
  rw [mergeL_snoc hx,addM_empty _ _ (by rw [Inl.mergeX_kd];exact h1) (by rw [Inl.mergeX_tx];exact h2)]
 rw [app_empty h2]
 rcases h with ⟨h3,h4,h5⟩ | ⟨f,h3,h4,y,h5,h6,h7,h8⟩
 ·exact .inl ⟨h3,by rw [hm];exact h4,h5⟩
 ·exact .inr ⟨f,h3,by omega,y,h5,h6,by rw [hm];exact h7,h8⟩
theorem Grp.first {l out:List Inl} {j:Nat} {c:ByteArray} {x:Inl} (h:Grp l out j (-1) c) (hx:l[j]?=some x) (h1:x.kd=1) (h2:q06 x.tx=false) (hl:∀ y,out.getLast?=some y->y.kd≠1):Grp l out (j+1) j (c++x.tx):=by
 rcases h with ⟨-,h4,h5⟩ | ⟨f,h3,-⟩
 ·refine .inr ⟨j,rfl,by omega,x,hx,h1,?_,app_ne h2⟩
  rw [mergeL_snoc hx,h4,addM_first _ _ (by rw [Inl.mergeX_kd];exact h1) (by rw [Inl.mergeX_tx];exact h2) hl,nil_app0 h5,<- Inl.mergeX_tx,Inl.set_self]
 ·omega
theorem Grp.more {l out:List Inl} {j f:Nat} {c:ByteArray} {x:Inl} (h:Grp l out j (f:Nat) c) (hx:l[j]?=some x) (h1:x.kd=1) (h2:q06 x.tx=false):Grp l out (j+1) (f:Nat) (c++x.tx):=by
 rcases h with ⟨h3,-⟩ | ⟨g,h3,h4,y,h5,h6,h7,-⟩
 ·omega
 ·refine .inr ⟨g,h3,by omega,y,h5,h6,?_,app_ne h2⟩
  rw [mergeL_snoc hx,h7,addM_join _ _ _ (by rw [Inl.set_kd,Inl.mergeX_kd];exact h6) (by rw [Inl.mergeX_kd];exact h1) (by rw [Inl.mergeX_tx];exact h2),Inl.set_set,Inl.set_tx,Inl.mergeX_tx]
def Edge (l out:List Inl) (k:Nat):Prop:=∀ x,l[k]?=some x->x.kd=1->∀ y,out.getLast?=some y->y.kd≠1
theorem Edge.zero (l:List Inl):Edge l [] 0:=fun _ _ _ _ h=>by simp at h
theorem Edge.one {l out:List Inl} {k:Nat} {x:Inl} (h:x.kd≠1):Edge l (out++[x]) k:=fun _ _ _ y hy=>by simp at hy;rw [<- hy];exact h
theorem Edge.stop {l out:List Inl} {k:Nat} (h:∀ x,l[k]?=some x->x.kd≠1):Edge l out k:=fun x hx h1=>absurd h1 (h x hx)
theorem addM_len (out:List Inl) (x:Inl):(addM out x).length<=out.length+1:=by
 unfold addM
 split
 ·split
  ·exact Nat.le_succ _
  ·split
   ·split
    ·simp only [List.length_append,List.length_dropLast,List.length_cons,List.length_nil];omega
    ·simp
   ·simp
 ·simp
theorem mergeA_len:∀ (l out:List Inl),(Inl.mergeA out l).length<=out.length+l.length
 | [],out=>by rw [Inl.mergeA];simp
 | x::l,out=>by rw [Inl.mergeA];have h1:=mergeA_len l (addM out x.mergeX);have h2:=addM_len out x.mergeX;simp;omega
theorem decodeN_more (n N b0 b1 b2 b3 c1 c2 c3:Nat) (hn:1<=n) (hN:n<=N) (h1:1<n->c1=b1) (h2:2<n->c2=b2) (h3:3<n->c3=b3) (h:Lib.decodeN n b0 b1 b2 b3≠(65533,1)) :
  Lib.decodeN N b0 c1 c2 c3=Lib.decodeN n b0 b1 b2 b3/\(Lib.decodeN n b0 b1 b2 b3).2<=n:=by
 by_cases a0:b0<128
 ·have e1:∀ m x y z,Lib.decodeN m b0 x y z=(b0,1):=fun m x y z=>by unfold Lib.decodeN;rw [if_pos a0]
  rw [e1,e1];exact ⟨rfl,hn⟩
 by_cases a1:b0/32=6/\(1<n/\b1/64=2)
 ·obtain ⟨p1,p2,p3⟩:=a1
  obtain rfl:=h1 p2
  have e1:∀ m y z,1<m->Lib.decodeN m b0 c1 y z=if b0%32*64+c1%64≥128 then (b0%32*64+c1%64,2) else (65533,1):=fun m y z hm=>by
   unfold Lib.decodeN;rw [if_neg a0,if_pos ⟨p1,hm,p3⟩]
  rw [e1 N c2 c3 (by omega),e1 n b2 b3 p2]
  refine ⟨rfl,?_⟩
  split
  ·exact p2
  ·exact hn
 by_cases a2:b0/16=14/\(1<n/\b1/64=2)/\(2<n/\b2/64=2)
 ·obtain ⟨p1,⟨p2,p3⟩,p4,p5⟩:=a2
  obtain rfl:=h1 p2
  obtain rfl:=h2 p4
  have e1:∀ m z,1<m->2<m->Lib.decodeN m b0 c1 c2 z=Lib.decodeN 3 b0 c1 c2 0:=fun m z hm hm2=>by
   unfold Lib.decodeN
   rw [if_neg a0,if_neg a0,if_neg (show ¬ (b0/32=6/\_) from fun h=>by omega),if_neg (show ¬ (b0/32=6/\_) from fun h=>by omega),if_pos (show b0/16=14/\(1<m/\c1/64=2)/\(2<m/\c2/64=2) from ⟨p1,⟨hm,p3⟩,hm2,p5⟩),if_pos (show b0/16=14/\(1<3/\c1/64=2)/\(2<3/\c2/64=2) from ⟨p1,⟨by omega,p3⟩,by omega,p5⟩)]
  have e2:(Lib.decodeN 3 b0 c1 c2 0).2<=3:=by
   unfold Lib.decodeN
   rw [if_neg a0,if_neg (show ¬ (b0/32=6/\_) from fun h=>by omega),if_pos ⟨p1,⟨by omega,p3⟩,by omega,p5⟩]
   split
   ·exact Nat.le_refl 3
   ·exact (by decide:1<=3)
  rw [e1 N c3 (by omega) (by omega),e1 n b3 p2 p4]
  exact ⟨rfl,by omega⟩
 by_cases a3:b0/8=30/\(1<n/\b1/64=2)/\(2<n/\b2/64=2)/\(3<n/\b3/64=2)
 ·obtain ⟨p1,⟨p2,p3⟩,⟨p4,p5⟩,p6,p7⟩:=a3
  obtain rfl:=h1 p2
  obtain rfl:=h2 p4
  obtain rfl:=h3 p6
  have e1:∀ m,1<m->2<m->3<m->Lib.decodeN m b0 c1 c2 c3=Lib.decodeN 4 b0 c1 c2 c3:=fun m hm hm2 hm3=>by
   unfold Lib.decodeN
   rw [if_neg a0,if_neg a0,if_neg (show ¬ (b0/32=6/\_) from fun h=>by omega),if_neg (show ¬ (b0/32=6/\_) from fun h=>by omega),if_neg (show ¬ (b0/16=14/\_) from fun h=>by omega),if_neg (show ¬ (b0/16=14/\_) from fun h=>by omega),
    if_pos (show b0/8=30/\(1<m/\c1/64=2)/\(2<m/\c2/64=2)/\(3<m/\c3/64=2) from ⟨p1,⟨hm,p3⟩,⟨hm2,p5⟩,hm3,p7⟩),if_pos (show b0/8=30/\(1<4/\c1/64=2)/\(2<4/\c2/64=2)/\(3<4/\c3/64=2) from ⟨p1,⟨by omega,p3⟩,⟨by omega,p5⟩,by omega,p7⟩)]
  have e2:(Lib.decodeN 4 b0 c1 c2 c3).2<=4:=by
   unfold Lib.decodeN
   rw [if_neg a0,if_neg (show ¬ (b0/32=6/\_) from fun h=>by omega),if_neg (show ¬ (b0/16=14/\_) from fun h=>by omega),if_pos ⟨p1,⟨by omega,p3⟩,⟨by omega,p5⟩,by omega,p7⟩]
   split
   ·exact Nat.le_refl 4
   ·exact (by decide:1<=4)
  rw [e1 N (by omega) (by omega) (by omega),e1 n p2 p4 p6]
  exact ⟨rfl,by omega⟩
 ·refine absurd ?_ h
  unfold Lib.decodeN
  rw [if_neg a0,if_neg a1,if_neg a2,if_neg a3]
theorem okPt_bad:okPt (65533,1)=false:=by decide
theorem getD_app1 (l m:List UInt8) (i:Nat) (h:i<l.length):(l++m).getD i 0=l.getD i 0:=by
 rw [List.getD_eq_getElem?_getD,List.getD_eq_getElem?_getD,List.getElem?_append_left h]
theorem getD_app2 (l m:List UInt8) (i:Nat):(l++m).getD (l.length+i) 0=m.getD i 0:=by
 rw [List.getD_eq_getElem?_getD,List.getD_eq_getElem?_getD,List.getElem?_append_right (by omega),Nat.add_sub_cancel_left]
theorem app_list (s t:ByteArray):(s++t).data.toList=s.data.toList++t.data.toList:=by simp [ByteArray.data_append]
theorem len_size (s:ByteArray):s.data.toList.length=s.size:=by simp
theorem dec_app1 (s t:ByteArray) (i:Nat) (hi:i<s.size) (hok:okPt (Utf8.decode s i)=true):Utf8.decode (s++t) i=Utf8.decode s i/\i+(Utf8.decode s i).2<=s.size:=by
 have hl:=len_size s
 have hne:Utf8.decode s i≠(65533,1):=fun e=>by rw [e,okPt_bad] at hok;cases hok
 rw [Lib.decode_N] at hne ⊢
 have hb:=decodeN_more (s.data.toList.length-i) ((s.data.toList++t.data.toList).length-i) (s.data.toList.getD i 0).toNat (s.data.toList.getD (i+1) 0).toNat (s.data.toList.getD (i+2) 0).toNat (s.data.toList.getD (i+3) 0).toNat
  ((s.data.toList++t.data.toList).getD (i+1) 0).toNat ((s.data.toList++t.data.toList).getD (i+2) 0).toNat ((s.data.toList++t.data.toList).getD (i+3) 0).toNat (by omega) (by rw [List.length_append];omega)
  (fun h=>by rw [getD_app1 _ _ _ (by omega)]) (fun h=>by rw [getD_app1 _ _ _ (by omega)]) (fun h=>by rw [getD_app1 _ _ _ (by omega)]) (by rw [Lib.decode_N] at *;exact hne)
 rw [Lib.decode_N,app_list,getD_app1 s.data.toList _ i (by omega)]
 refine ⟨hb.1,?_⟩
 have:=hb.2
 omega
theorem dec_app2 (s t:ByteArray) (i:Nat):Utf8.decode (s++t) (s.size+i)=Utf8.decode t i:=by
 have hl:=len_size s
 rw [Lib.decode_N,Lib.decode_N,app_list,<- hl,Nat.add_assoc,Nat.add_assoc,Nat.add_assoc,getD_app2,getD_app2,getD_app2,getD_app2,List.length_append,Nat.add_sub_add_left]
theorem pts_app2 (s t:ByteArray):∀ (f i:Nat),ptsF (s++t) f (s.size+i)=ptsF t f i
 | 0,_=>rfl
 | f+1,i=>by
  rw [ptsF,ptsF,ByteArray.size_append]
  by_cases h:i<t.size
  ·rw [if_pos h,if_pos (by omega),dec_app2,Nat.add_assoc,pts_app2 s t f]
  ·rw [if_neg h,if_neg (by omega)]
theorem pts_fuel (s:ByteArray):∀ (f g i:Nat),s.size<=i+f->s.size<=i+g->ptsF s f i=ptsF s g i
 | 0,g,i,hf,hg=>by rw [ptsF_end s g i (by omega)];rfl
 | f+1,0,i,hf,hg=>by rw [ptsF_end s (f+1) i (by omega)];rfl
 | f+1,g+1,i,hf,hg=>by
  rw [ptsF,ptsF]
  by_cases h:i<s.size
  ·have hw:=Lib.decode_width_pos s i h
   rw [if_pos h,if_pos h,pts_fuel s f g _ (by omega) (by omega)]
  ·rw [if_neg h,if_neg h]
theorem pts_app1 (s t:ByteArray):∀ (f i F:Nat),i<=s.size->s.size<=i+f->(ptsF s f i).all okPt=true->s.size+t.size<=i+F->ptsF (s++t) F i=ptsF s f i++ptsF t t.size 0
 | f,i,F,hi,hf,hok,hF=>by
  by_cases h:i<s.size
  ·cases f with
   | zero=>omega
   | succ f=>
    cases F with
    | zero=>omega
    | succ F=>
     rw [ptsF,if_pos h,List.all_cons,Bool.and_eq_true] at hok
     obtain ⟨hd,hw⟩:=dec_app1 s t i h hok.1
     have hw1:=Lib.decode_width_pos s i h
     rw [ptsF,ptsF,if_pos h,if_pos (by rw [ByteArray.size_append];omega),hd,pts_app1 s t f _ F hw (by omega) hok.2 (by omega),List.cons_append]
  ·have e:i=s.size:=by omega
   subst e
   rw [ptsF_end s f _ h,List.nil_append]
   have h2:=pts_app2 s t F 0
   rw [Nat.add_zero] at h2
   rw [h2]
   exact pts_fuel t F t.size 0 (by omega) (by omega)
theorem valid_app (s t:ByteArray) (hs:q29 s=true) (ht:q29 t=true):q29 (s++t)=true:=by
 unfold q29 at hs ht ⊢
 unfold pts at hs ht ⊢
 rw [pts_app1 s t s.size 0 (s++t).size (by omega) (by omega) hs (by rw [ByteArray.size_append];omega),List.all_append,hs,ht];rfl
theorem noLF_app (s t:ByteArray) (hs:noLF s=true) (ht:noLF t=true):noLF (s++t)=true:=by
 unfold noLF at hs ht ⊢
 rw [app_list,List.all_append,hs,ht];rfl
theorem line_app (s t:ByteArray) (hs:q0d s=true) (ht:q0d t=true):q0d (s++t)=true:=by
 unfold q0d at hs ht ⊢
 rw [Bool.and_eq_true] at hs ht ⊢
 exact ⟨valid_app s t hs.1 ht.1,noLF_app s t hs.2 ht.2⟩
def AscS (s:ByteArray):Prop:=∀ c∈s.data.toList,32<=c.toNat/\c.toNat<127
theorem asc_pts (s:ByteArray) (h:AscS s):∀ (f i:Nat),(ptsF s f i).all okPt=true
 | 0,_=>rfl
 | f+1,i=>by
  rw [ptsF]
  split
  ·rename_i hi
   have hm:s[i]∈s.data.toList:=by
    have:s[i]=s.data.toList[i]'(by simpa using hi):=by show s.data[i]=_;simp
    rw [this];exact List.getElem_mem _
   obtain ⟨h1,h2⟩:=h _ hm
   rw [decode_ascii s i hi (by omega),List.all_cons,asc_pts s h f]
   simp [okPt];omega
  ·rfl
theorem asc_line (s:ByteArray) (h:AscS s):q0d s=true:=by
 unfold q0d q29 pts
 rw [asc_pts s h,Bool.true_and]
 unfold noLF
 rw [List.all_eq_true]
 intro c hc
 have:=(h c hc).1
 simp
 intro e
 rw [e] at this
 simp at this
theorem asc_app (s t:ByteArray) (hs:AscS s) (ht:AscS t):AscS (s++t):=by
 intro c hc
 rw [app_list] at hc
 rcases List.mem_append.1 hc with hc | hc
 ·exact hs c hc
 ·exact ht c hc
def at0:At:=⟨⟨#[]⟩,[],[]⟩
def txI (t:ByteArray):Inl:=.mk 1 t ⟨#[]⟩ ⟨#[]⟩ at0 [] [] []
def addK (q:Int) (out:List Inl) (x:Inl):List Inl:=
 if x.kd=q then match out.getLast? with
  | some y=>if y.kd=q then out.dropLast++[y.setTx (y.tx++x.tx)] else out++[x]
  | none=>out++[x]
 else out++[x]
def q1k (q:Int) (l:List Inl):List Inl:=l.foldl (addK q) []
def fullB (x:Inl):Bool:=!decide (x.kd=1)||!q06 x.tx
def fullL (l:List Inl):List Inl:=l.filter fullB
theorem addM_addK (out:List Inl) (x:Inl):addM out x=if fullB x=true then addK 1 out x else out:=by
 unfold addM fullB addK
 by_cases h1:x.kd=1
 ·by_cases h2:q06 x.tx=true
  ·rw [if_pos h1,if_pos h2,if_neg (by simp [h1,h2])]
  ·rw [if_pos h1,if_neg h2,if_pos (by simp [h2]),if_pos h1]<;>rfl
 ·rw [if_neg h1,if_pos (by simp [h1]),if_neg h1]
theorem foldM_join:∀ (l out:List Inl),l.foldl addM out=(fullL l).foldl (addK 1) out
 | [],out=>rfl
 | x::l,out=>by
  unfold fullL
  rw [List.foldl_cons,List.filter_cons,addM_addK]
  by_cases h:fullB x=true
  ·rw [if_pos h,if_pos h,List.foldl_cons];exact foldM_join l _
  ·rw [if_neg h,if_neg h];exact foldM_join l _
theorem mergeA_fold:∀ (l out:List Inl),Inl.mergeA out l=(l.map Inl.mergeX).foldl addM out
 | [],out=>by rw [Inl.mergeA];rfl
 | x::l,out=>by rw [Inl.mergeA,List.map_cons,List.foldl_cons];exact mergeA_fold l _
theorem mergeL_join (l:List Inl):Inl.mergeL l=q1k 1 (fullL (l.map Inl.mergeX)):=by
 unfold Inl.mergeL q1k
 rw [mergeA_fold,foldM_join]
mutual
def Inl.entX:Inl->List Inl
 | .mk k t d ti a ar ci ks=>
  if k=9\/k=11 then q1k 4 (Inl.mergeL (Inl.entR ks))
  else if k=12\/k=14\/k=13 then []
  else if k=16 then [txI d]
  else if k=2\/k=3 then [txI ⟨#[32]⟩]
  else if k=10 then [.mk k t d ti at0 ar ci (q1k 4 (Inl.mergeL (Inl.entR ks)))]
  else if k=6\/k=7\/k=8 then (if (q1k 4 (Inl.mergeL (Inl.entR ks))).isEmpty=true then [] else [.mk k t d ti a ar ci (q1k 4 (Inl.mergeL (Inl.entR ks)))])
  else [.mk k t d ti a ar ci ks]
def Inl.entR:List Inl->List Inl
 | []=>[]
 | x::l=>x.entX++Inl.entR l
end
def entL (l:List Inl):List Inl:=q1k 4 (Inl.mergeL (Inl.entR l))
theorem entX_eq (k:Int) (t d ti:ByteArray) (a:At) (ar:List ByteArray) (ci:List Ci) (ks:List Inl):Inl.entX (.mk k t d ti a ar ci ks) =
  if k=9\/k=11 then entL ks
  else if k=12\/k=14\/k=13 then []
  else if k=16 then [txI d]
  else if k=2\/k=3 then [txI ⟨#[32]⟩]
  else if k=10 then [.mk k t d ti at0 ar ci (entL ks)]
  else if k=6\/k=7\/k=8 then (if (entL ks).isEmpty=true then [] else [.mk k t d ti a ar ci (entL ks)])
  else [.mk k t d ti a ar ci ks]:=by rw [Inl.entX];rfl
def Inl.entY:Inl->List Inl
 | .mk k t d ti a ar ci ks=>
  if k=9\/k=11 then entL ks
  else if k=12\/k=14\/k=13 then []
  else if k=16 then [txI d]
  else if k=2\/k=3 then [txI ⟨#[32]⟩]
  else if k=10 then [.mk k t d ti at0 ar ci (entL ks)]
  else if k=6\/k=7\/k=8 then (if (entL ks).isEmpty=true then [] else [.mk k t d ti a ar ci (entL ks)])
  else [.mk k t d ti a ar ci (Inl.mergeL ks)]
theorem last1_snoc (p:Bool) (l:List Inl) (x:Inl):last1 p (l++[x])=decide (x.kd=1):=by unfold last1;rw [List.getLast?_append];rfl
theorem nf_join4:∀ (l out:List Inl),Inl.nfL (last1 false out) l->Inl.nfL false out->Inl.nfL false (l.foldl (addK 4) out)
 | [],out,_,h=>h
 | x::l,out,hl,ho=>by
  rw [Inl.nfL] at hl
  obtain ⟨h1,h2,h3⟩:=hl
  have hA:Inl.nfL false (out++[x]):=(Inl.nfL_snoc out false x).2 ⟨ho,h1,h2⟩
  have hAl:Inl.nfL (last1 false (out++[x])) l:=by rw [last1_snoc];exact h3
  rw [List.foldl_cons]
  unfold addK
  by_cases hx:x.kd=4
  ·rw [if_pos hx]
   cases hg:out.getLast? with
   | none=>exact nf_join4 l _ hAl hA
   | some y=>
    simp only
    by_cases hy:y.kd=4
    ·rw [if_pos hy]
     rw [q1s hg] at ho
     obtain ⟨g1,g2,g3⟩:=(Inl.nfL_snoc _ _ _).1 ho
     have hk:(y.setTx (y.tx++x.tx)).kd=4:=by rw [Inl.set_kd];exact hy
     refine nf_join4 l _ ?_ ((Inl.nfL_snoc _ _ _).2 ⟨g1,nf_setTx y _ g2,fun e=>by rw [hk] at e;cases e⟩)
     rw [last1_snoc,hk]
     rw [hx] at h3
     exact h3
    ·rw [if_neg hy];exact nf_join4 l _ hAl hA
  ·rw [if_neg hx];exact nf_join4 l _ hAl hA
theorem ent_nf (l:List Inl):Inl.nfL false (entL l):=by
 unfold entL q1k
 refine nf_join4 _ [] ?_ (by unfold Inl.nfL;trivial)
 exact Inl.nf_mergeA (Inl.entR l) [] (by unfold Inl.nfL;trivial)
theorem nfL_mem:∀ (l:List Inl) (p:Bool),Inl.nfL p l->∀ x∈l,x.nf
 | [],_,_,x,hx=>by cases hx
 | y::l,p,h,x,hx=>by
  rw [Inl.nfL] at h
  rcases List.mem_cons.1 hx with rfl | hx
  ·exact h.1
  ·exact nfL_mem l _ h.2.2 x hx
theorem map_nf (l:List Inl) (h:∀ x∈l,x.nf):l.map Inl.mergeX=l:=by
 conv=>rhs;rw [<- List.map_id l]
 exact List.map_congr_left fun x hx=>Inl.mergeX_nf x (h x hx)
theorem merge_ent (l:List Inl):Inl.mergeL (entL l)=entL l:=by
 have:=Inl.mergeA_nf (entL l) [] (ent_nf l)
 rwa [List.nil_append] at this
theorem mergeX_mk (k:Int) (t d ti:ByteArray) (a:At) (ar:List ByteArray) (ci:List Ci) (ks:List Inl):Inl.mergeX (.mk k t d ti a ar ci ks)=.mk k t d ti a ar ci (Inl.mergeL ks):=by rw [Inl.mergeX];rfl
theorem mergeX_tx0 (t:ByteArray):Inl.mergeX (txI t)=txI t:=by unfold txI;rw [mergeX_mk];unfold Inl.mergeL;rw [Inl.mergeA]
theorem entX_map (x:Inl):x.entX.map Inl.mergeX=x.entY:=by
 obtain ⟨k,t,d,ti,a,ar,ci,ks⟩:=x
 rw [entX_eq,Inl.entY]
 by_cases h1:k=9\/k=11
 ·rw [if_pos h1,if_pos h1];exact map_nf _ (nfL_mem _ _ (ent_nf ks))
 rw [if_neg h1,if_neg h1]
 by_cases h2:k=12\/k=14\/k=13
 ·rw [if_pos h2,if_pos h2];rfl
 rw [if_neg h2,if_neg h2]
 by_cases h3:k=16
 ·rw [if_pos h3,if_pos h3];simp [mergeX_tx0]
 rw [if_neg h3,if_neg h3]
 by_cases h4:k=2\/k=3
 ·rw [if_pos h4,if_pos h4];simp [mergeX_tx0]
 rw [if_neg h4,if_neg h4]
 by_cases h5:k=10
 ·rw [if_pos h5,if_pos h5,List.map_singleton,mergeX_mk,merge_ent]
 rw [if_neg h5,if_neg h5]
 by_cases h6:k=6\/k=7\/k=8
 ·rw [if_pos h6,if_pos h6]
  by_cases h7:(entL ks).isEmpty=true
  ·rw [if_pos h7];rfl
  ·rw [if_neg h7,List.map_singleton,mergeX_mk,merge_ent]
 rw [if_neg h6,if_neg h6]
 rw [List.map_singleton,mergeX_mk]
theorem entR_flat (l:List Inl):Inl.entR l=l.flatMap Inl.entX:=by
 induction l with
 | nil=>rw [Inl.entR];rfl
 | cons x l ih=>rw [Inl.entR,ih,List.flatMap_cons]
theorem entL_prog (l:List Inl):entL l=q1k 4 (q1k 1 (fullL (l.flatMap Inl.entY))):=by
 unfold entL
 rw [mergeL_join,entR_flat,List.map_flatMap]
 have:(fun x:Inl=>x.entX.map Inl.mergeX)=Inl.entY:=funext entX_map
 rw [this]
end Go.Proofs.YtlbioncagkkkoaaGreatDoor
