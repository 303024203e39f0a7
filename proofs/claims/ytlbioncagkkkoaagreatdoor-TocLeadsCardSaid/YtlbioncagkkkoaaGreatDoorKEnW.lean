/- Plain part: the numbers of a document: sections, figures, tables, equations, notes. Plain part: entries, and the list of entries, as the program and as the reference make it. Plain part: the entries of numbers. Plain part: blocks with their tables of contents filled. Words for numbers and entries in memory. -/
import Derived.Test.YtlbioncagkkkoaaGreatDoorKEach
import Derived.Test.YtlbioncagkkkoaaGreatDoorKSmall
import Derived.Test.YtlbioncagkkkoaaGreatDoorKPlToc
import Derived.Lib.ItoaNum
import Derived.Test.YtlbioncagkkkoaaGreatDoorKTcM
namespace Go.Proofs.YtlbioncagkkkoaaGreatDoor
set_option linter.unusedVariables false
set_option linter.unusedSimpArgs false
structure Nm where
 id:ByteArray
 kind:ByteArray
 val:ByteArray
 line:List Inl
def Nm.d (n:Nm):D:=.st [.str n.id,.str n.kind,.str n.val,q0w n.line]
def nmsD (l:List Nm):D:=.sl 4 (l.map Nm.d)
def secS:ByteArray:=⟨#[115,101,99,116,105,111,110]⟩
def figS:ByteArray:=⟨#[102,105,103,117,114,101]⟩
def tabS:ByteArray:=⟨#[116,97,98,108,101]⟩
def equS:ByteArray:=⟨#[101,113,117,97,116,105,111,110]⟩
def notS:ByteArray:=⟨#[110,111,116,101]⟩
def decS (n:Nat):ByteArray:=⟨(Lib.decDigits n).toArray⟩
def lvlOf (lv:Int):Nat:=if lv<1 then 1 else if 6<lv then 6 else lv.toNat
def cntUp (c:List Nat) (k:Nat):List Nat:=(List.range 6).map fun i=>if i+1<k then max (c.getD i 0) 1 else if i+1=k then c.getD i 0+1 else 0
def dotL:List (List UInt8)->List UInt8
 | []=>[]
 | [x]=>x
 | x::y::l=>x++46::dotL (y::l)
def valS (c:List Nat) (k:Nat):ByteArray:=⟨(dotL ((c.take k).map Lib.decDigits)).toArray⟩
def Blk.lineOf:Blk->List Inl
 | .mk _ _ _ _ _ _ _ li _=>li
def Blk.kindOf:Blk->Int
 | .mk k _ _ _ _ _ _ _ _=>k
def capL (l:List Blk):List Inl:=match (l.drop 1).find? (fun b=>decide (b.kindOf=1)) with
 | some b=>b.lineOf
 | none=>[]
structure Ns where
 c:List Nat
 f:Nat
 t:Nat
 e:Nat
 out:List Nm
def q2g (free:Bool) (s:Ns) (k lv:Int) (i:ByteArray) (a:At) (li:List Inl) (ks:List Blk):Ns:=
 if k=2/\free=true then { s with c:=cntUp s.c (lvlOf lv),out:=s.out++[⟨a.id,secS,valS (cntUp s.c (lvlOf lv)) (lvlOf lv),li⟩] }
 else if k=13/\i=figS then { s with f:=s.f+1,out:=s.out++[⟨a.id,figS,decS (s.f+1),capL ks⟩] }
 else if k=13/\i=tabS then { s with t:=s.t+1,out:=s.out++[⟨a.id,tabS,decS (s.t+1),capL ks⟩] }
 else if k=4/\a.id.data.toList≠[] then { s with e:=s.e+1,out:=s.out++[⟨a.id,equS,decS (s.e+1),[]⟩] }
 else s
mutual
def Blk.num (free:Bool) (s:Ns):Blk->Ns
 | .mk k lv i t d ti a li ks=>Blk.numL (free&&decide (k=13)) (q2g free s k lv i a li ks) ks
def Blk.numL (free:Bool) (s:Ns):List Blk->Ns
 | []=>s
 | x::l=>Blk.numL free (x.num free s) l
end
def ns0:Ns:=⟨List.replicate 6 0,0,0,0,[]⟩
def noteG (defs:List ByteArray) (out:List ByteArray):List Inl->List ByteArray
 | []=>out
 | x::l=>noteG defs (if x.kd=12/\q1d defs x.tx=true/\q1d out x.tx=false then out++[x.tx] else out) l
def defN (l:List Blk):List ByteArray:=l.filterMap fun b=>match b with
 | .mk k _ i _ _ _ _ _ _=>if k=14 then some i else none
def notesL (l:List Blk):List ByteArray:=noteG (defN (Blk.eachL l)) [] (Blk.inlsL l)
def q1j (j:Nat):List ByteArray->List Nm
 | []=>[]
 | x::l=>⟨x,notS,decS (j+1),[]⟩::q1j (j+1) l
def q25 (l:List Blk):List Nm:=(Blk.numL true ns0 l).out++q1j 0 (notesL l)
theorem Blk.numL_app (free:Bool):∀ (l m:List Blk) (s:Ns),Blk.numL free s (l++m)=Blk.numL free (Blk.numL free s l) m
 | [],m,s=>by rw [List.nil_append];conv=>rhs;rw [Blk.numL]
 | x::l,m,s=>by rw [List.cons_append,Blk.numL,Blk.numL_app free l m,Blk.numL]
theorem Blk.numL_snoc (free:Bool) (l:List Blk) (k:Nat) (x:Blk) (s:Ns) (h:l[k]?=some x):Blk.numL free s (l.take (k+1))=x.num free (Blk.numL free s (l.take k)):=by
 rw [List.take_add_one,h,Blk.numL_app]
 simp [Blk.numL]
structure En where
 lv:Int
 id:ByteArray
 tx:ByteArray
 line:List Inl
 refs:List ByteArray
def En.d (e:En):D:=.st [.int .i64 e.lv,.str e.id,.str e.tx,q0w e.line,strsD e.refs]
def ensD (l:List En):D:=.sl 5 (l.map En.d)
def hashB:ByteArray:=⟨#[35]⟩
def q0z (e:En):List Inl:=(if q06 e.tx=true then [] else [txI (e.tx++⟨#[32]⟩)])++e.line
def q21 (e:En):Inl:=.mk 9 ⟨#[]⟩ (hashB++e.id) ⟨#[]⟩ at0 [] [] (Inl.mergeL (q0z e))
def paraB (e:En):Blk:=.mk 1 0 ⟨#[]⟩ ⟨#[]⟩ ⟨#[]⟩ ⟨#[]⟩ at0 [q21 e] []
def itemB (e:En) (ks:List Blk):Blk:=.mk 9 0 ⟨#[]⟩ ⟨#[]⟩ ⟨#[]⟩ ⟨#[]⟩ at0 [] (paraB e::ks)
def bulB (items:List Blk):List Blk:=if items.isEmpty=true then [] else [.mk 7 0 ⟨#[]⟩ ⟨#[]⟩ ⟨#[]⟩ ⟨#[]⟩ at0 [] items]
def En.over (e x:En):Bool:=decide (e.lv<x.lv)
theorem q26 {α:Type} (p:α->Bool):∀ (l:List α),(l.takeWhile p).length<=l.length
 | []=>by simp
 | x::l=>by
  have:=q26 p l
  rw [List.takeWhile_cons]
  split<;>simp<;>omega
theorem q2e {α:Type} (p:α->Bool):∀ (l:List α),(l.dropWhile p).length<=l.length
 | []=>by simp
 | x::l=>by
  have:=q2e p l
  rw [List.dropWhile_cons]
  split<;>simp<;>omega
def q1r:List En->List Blk
 | []=>[]
 | e::l=>itemB e (bulB (q1r (l.takeWhile e.over)))::q1r (l.dropWhile e.over)
termination_by l=>l.length
decreasing_by
 ·have:=q26 e.over l;simp only [List.length_cons];omega
 ·have:=q2e e.over l;simp only [List.length_cons];omega
def q1v (l:List En):List Blk:=bulB (q1r l)
theorem q0f:q1r []=[]:=by rw [q1r]
theorem q14 (e:En) (l:List En):q1r (e::l)=itemB e (q1v (l.takeWhile e.over))::q1r (l.dropWhile e.over):=by rw [q1r];rfl
theorem tw_tw {α:Type} (p q:α->Bool) (h:∀ x,q x=true->p x=true):∀ (l:List α),(l.takeWhile p).takeWhile q=l.takeWhile q
 | []=>rfl
 | x::l=>by
  have ih:=tw_tw p q h l
  by_cases hq:q x=true
  ·rw [List.takeWhile_cons,if_pos (h x hq),List.takeWhile_cons,if_pos hq,List.takeWhile_cons,if_pos hq,ih]
  ·by_cases hp:p x=true
   ·rw [List.takeWhile_cons,if_pos hp,List.takeWhile_cons,if_neg hq,List.takeWhile_cons,if_neg hq]
   ·rw [List.takeWhile_cons,if_neg hp,List.takeWhile_cons,if_neg hq];rfl
theorem tw_dw {α:Type} (p q:α->Bool) (h:∀ x,q x=true->p x=true):∀ (l:List α),(l.takeWhile p).dropWhile q=(l.dropWhile q).takeWhile p
 | []=>rfl
 | x::l=>by
  have ih:=tw_dw p q h l
  by_cases hq:q x=true
  ·rw [List.takeWhile_cons,if_pos (h x hq),List.dropWhile_cons,if_pos hq,List.dropWhile_cons,if_pos hq,ih]
  ·rw [List.dropWhile_cons,if_neg hq]
   by_cases hp:p x=true
   ·rw [List.takeWhile_cons,if_pos hp,List.dropWhile_cons,if_neg hq]
   ·rw [List.takeWhile_cons,if_neg hp];rfl
def Up (p:En->Bool):Prop:=∀ e x,p e=true->e.over x=true->p x=true
theorem up_true:Up fun _=>true:=fun _ _ _ _=>rfl
theorem items_step (p:En->Bool) (hp:Up p) (e:En) (l:List En) (he:p e=true) :
  q1r ((e::l).takeWhile p)=itemB e (q1v (l.takeWhile e.over))::q1r ((l.dropWhile e.over).takeWhile p):=by
 rw [List.takeWhile_cons,if_pos he,q14,tw_tw p e.over (fun x hx=>hp e x he hx),tw_dw p e.over (fun x hx=>hp e x he hx)]
theorem tw_dw_len {α:Type} (q:α->Bool) (l:List α):(l.takeWhile q).length+(l.dropWhile q).length=l.length:=by
 have:=congrArg List.length (List.takeWhile_append_dropWhile (p:=q) (l:=l))
 rwa [List.length_append] at this
theorem dw_drop {α:Type} (q:α->Bool):∀ (l:List α),l.dropWhile q=l.drop (l.takeWhile q).length
 | []=>rfl
 | x::l=>by
  have ih:=dw_drop q l
  by_cases hq:q x=true
  ·rw [List.dropWhile_cons,if_pos hq,List.takeWhile_cons,if_pos hq,ih];rfl
  ·rw [List.dropWhile_cons,if_neg hq,List.takeWhile_cons,if_neg hq];rfl
theorem step_len (p:En->Bool) (hp:Up p) (e:En) (l:List En) (he:p e=true) :
  ((e::l).takeWhile p).length=1+(l.takeWhile e.over).length+((l.dropWhile e.over).takeWhile p).length:=by
 have h1:=tw_dw_len e.over (l.takeWhile p)
 rw [tw_tw p e.over (fun x hx=>hp e x he hx),tw_dw p e.over (fun x hx=>hp e x he hx)] at h1
 rw [List.takeWhile_cons,if_pos he,List.length_cons];omega
def levB (s:ByteArray):Nat:=s.data.toList.count 46+1
def shownB (depth:Int) (n:Nm):Bool:=decide (n.kind=secS)&&!q06 n.id&&decide ((levB n.val:Int)<=depth)
def entOf (n:Nm):En:=⟨levB n.val,n.id,n.val,entL n.line,[]⟩
def tocL (l:List Nm) (depth:Int):List En:=(l.filter (shownB depth)).map entOf
theorem digit_ne (n:Nat) (h:n<10):UInt8.ofNat (48+n)≠46:=by
 intro e
 have:=congrArg UInt8.toNat e
 simp at this
 omega
theorem dec_nodot (n:Nat):(Lib.decDigits n).count 46=0:=by
 induction n using Nat.strongRecOn with
 | _ n ih=>
  rw [Lib.decDigits]
  split
  ·rename_i h
   rw [List.count_eq_zero]
   intro hm
   exact digit_ne n h (List.mem_singleton.1 hm).symm
  ·rename_i h
   rw [List.count_append,ih (n/10) (by omega),Nat.zero_add,List.count_eq_zero]
   intro hm
   exact digit_ne (n%10) (by omega) (List.mem_singleton.1 hm).symm
theorem dotL_count:∀ (l:List (List UInt8)),(∀ x∈l,x.count 46=0)->(dotL l).count 46=l.length-1
 | [],_=>rfl
 | [x],h=>by rw [dotL,h x (by simp)];rfl
 | x::y::l,h=>by
  have ih:=dotL_count (y::l) (fun z hz=>h z (List.mem_cons_of_mem _ hz))
  rw [dotL,List.count_append,List.count_cons_self,ih,h x (by simp)]
  simp
theorem lev_dec (n:Nat):levB (decS n)=1:=by unfold levB decS;rw [List.toList_toArray,dec_nodot]
theorem lev_val (c:List Nat) (k:Nat) (hk:k<=6):levB (valS c k)<=6:=by
 unfold levB valS
 rw [List.toList_toArray,dotL_count _ (by
  intro x hx
  obtain ⟨n,-,rfl⟩:=List.mem_map.1 hx
  exact dec_nodot n)]
 rw [List.length_map,List.length_take];omega
theorem lvl_le (lv:Int):lvlOf lv<=6:=by unfold lvlOf;split;omega;split<;>omega
def NmOk (P:List Inl->Prop) (x:Nm):Prop:=levB x.val<=6/\P x.line
theorem cap_mem (ks:List Blk):capL ks=[]\/∃ b∈ks,capL ks=b.lineOf:=by
 unfold capL
 cases h:(ks.drop 1).find? (fun b=>decide (b.kindOf=1)) with
 | none=>exact .inl rfl
 | some b=>exact .inr ⟨b,List.mem_of_mem_drop (List.mem_of_find?_eq_some h),rfl⟩
theorem each_self (b:Blk):b∈b.each:=by
 obtain ⟨k,lv,i,t,d,ti,a,li,ks⟩:=b
 rw [Blk.each];exact List.mem_cons_self ..
theorem mem_each:∀ (l:List Blk) (b:Blk),b∈l->b∈Blk.eachL l
 | x::l,b,h=>by
  rw [Blk.eachL]
  rcases List.mem_cons.1 h with rfl | h
  ·exact List.mem_append_left _ (each_self b)
  ·exact List.mem_append_right _ (mem_each l b h)
theorem one_out (P:List Inl->Prop) (h0:P []) (free:Bool) (s:Ns) (k lv:Int) (i:ByteArray) (a:At) (li:List Inl) (ks:List Blk) (hli:P li) (hks:P (capL ks)) (hs:∀ x∈s.out,NmOk P x):∀ x∈(q2g free s k lv i a li ks).out,NmOk P x:=by
 unfold q2g
 have add:∀ (y:Nm),NmOk P y->∀ x∈s.out++[y],NmOk P x:=by
  intro y hy x hx
  rcases List.mem_append.1 hx with hx | hx
  ·exact hs x hx
  ·simp at hx;subst hx;exact hy
 split
 ·exact add _ ⟨lev_val _ _ (lvl_le lv),hli⟩
 ·split
  ·exact add _ ⟨by rw [lev_dec];omega,hks⟩
  ·split
   ·exact add _ ⟨by rw [lev_dec];omega,hks⟩
   ·split
    ·exact add _ ⟨by rw [lev_dec];omega,h0⟩
    ·exact hs
mutual
theorem Blk.num_out (P:List Inl->Prop) (h0:P []):∀ (b:Blk) (free:Bool) (s:Ns),(∀ x∈b.each,P x.lineOf)->(∀ x∈s.out,NmOk P x)->∀ x∈(b.num free s).out,NmOk P x
 | .mk k lv i t d ti a li ks,free,s,h,hs=>by
  rw [Blk.each] at h
  rw [Blk.num]
  refine Blk.numL_out P h0 ks _ _ (fun x hx=>h x (List.mem_cons_of_mem _ hx)) (one_out P h0 free s k lv i a li ks (h _ (List.mem_cons_self ..)) ?_ hs)
  rcases cap_mem ks with e | ⟨b,hb,e⟩
  ·rw [e];exact h0
  ·rw [e];exact h b (List.mem_cons_of_mem _ (mem_each ks b hb))
theorem Blk.numL_out (P:List Inl->Prop) (h0:P []):∀ (l:List Blk) (free:Bool) (s:Ns),(∀ x∈Blk.eachL l,P x.lineOf)->(∀ x∈s.out,NmOk P x)->∀ x∈(Blk.numL free s l).out,NmOk P x
 | [],_,_,_,hs=>by rw [Blk.numL];exact hs
 | x::l,free,s,h,hs=>by
  rw [Blk.eachL] at h
  rw [Blk.numL]
  exact Blk.numL_out P h0 l _ _ (fun y hy=>h y (List.mem_append_right _ hy)) (Blk.num_out P h0 x free s (fun y hy=>h y (List.mem_append_left _ hy)) hs)
end
theorem note_out (P:List Inl->Prop) (h0:P []):∀ (l:List ByteArray) (j:Nat),∀ x∈q1j j l,NmOk P x
 | [],_,x,hx=>by simp [q1j] at hx
 | y::l,j,x,hx=>by
  rw [q1j] at hx
  rcases List.mem_cons.1 hx with rfl | hx
  ·exact ⟨by show levB (decS _)<=6;rw [lev_dec];omega,h0⟩
  ·exact note_out P h0 l (j+1) x hx
theorem nums_ok (P:List Inl->Prop) (h0:P []) (l:List Blk) (h:∀ x∈Blk.eachL l,P x.lineOf):∀ x∈q25 l,NmOk P x:=by
 intro x hx
 unfold q25 at hx
 rcases List.mem_append.1 hx with hx | hx
 ·exact Blk.numL_out P h0 l true ns0 h (by simp [ns0]) x hx
 ·exact note_out P h0 _ 0 x hx
theorem one_len (free:Bool) (s:Ns) (k lv:Int) (i:ByteArray) (a:At) (li:List Inl) (ks:List Blk):(q2g free s k lv i a li ks).out.length<=s.out.length+1:=by
 unfold q2g
 split
 ·simp
 ·split
  ·simp
  ·split
   ·simp
   ·split<;>simp
mutual
theorem Blk.num_len:∀ (b:Blk) (free:Bool) (s:Ns),(b.num free s).out.length<=s.out.length+b.sz
 | .mk k lv i t d ti a li ks,free,s=>by
  rw [Blk.num,Blk.sz]
  have h1:=Blk.numL_len ks (free&&decide (k=13)) (q2g free s k lv i a li ks)
  have h2:=one_len free s k lv i a li ks
  omega
theorem Blk.numL_len:∀ (l:List Blk) (free:Bool) (s:Ns),(Blk.numL free s l).out.length<=s.out.length+Blk.szL l
 | [],_,s=>by rw [Blk.numL];omega
 | x::l,free,s=>by
  rw [Blk.numL,Blk.szL]
  have h1:=Blk.numL_len l free (x.num free s)
  have h2:=Blk.num_len x free s
  omega
end
theorem noteG_le (defs:List ByteArray):∀ (l:List Inl) (out:List ByteArray),(noteG defs out l).length<=out.length+l.length
 | [],out=>by simp [noteG]
 | x::l,out=>by
  rw [noteG]
  have:=noteG_le defs l (if x.kd=12/\q1d defs x.tx=true/\q1d out x.tx=false then out++[x.tx] else out)
  refine Nat.le_trans this ?_
  split<;>simp<;>omega
theorem noteNs_count:∀ (l:List ByteArray) (j:Nat),(q1j j l).length=l.length
 | [],_=>rfl
 | _::l,j=>by rw [q1j,List.length_cons,List.length_cons,noteNs_count l]
theorem nums_len (l:List Blk):(q25 l).length<=Blk.szL l+(Blk.inlsL l).length:=by
 unfold q25 notesL
 rw [List.length_append,noteNs_count]
 have h1:=Blk.numL_len l true ns0
 have h2:=noteG_le (defN (Blk.eachL l)) (Blk.inlsL l) []
 have h3:ns0.out.length=0:=rfl
 simp only [List.length_nil] at h2
 omega
theorem tocL_snoc (l:List Nm) (depth:Int) (k:Nat) (x:Nm) (h:l[k]?=some x):tocL (l.take (k+1)) depth=tocL (l.take k) depth++if shownB depth x=true then [entOf x] else []:=by
 unfold tocL
 rw [List.take_add_one,h,List.filter_append,List.map_append]
 congr 1
 by_cases hs:shownB depth x=true<;>simp [hs]
def tocS:ByteArray:=⟨#[116,111,99]⟩
def depS:ByteArray:=⟨#[100,101,112,116,104]⟩
mutual
def Blk.wk (K:At->List Blk):Blk->Blk
 | .mk k lv i t d ti a li ks=>.mk k lv i t d ti a li (if k=13/\i=tocS then K a else Blk.wkL K ks)
def Blk.wkL (K:At->List Blk):List Blk->List Blk
 | []=>[]
 | x::l=>x.wk K::Blk.wkL K l
end
def getP (l:List Pr) (key:ByteArray):Option ByteArray:=(l.find? fun p=>decide (p.key=key)).map (·.val)
def depV (o:Option ByteArray):Int:=match o with
 | some v=>match v.data.toList with
  | [c]=>if 49<=c.toNat/\c.toNat<=54 then (c.toNat:Int)-48 else 3
  | _=>3
 | none=>3
def q1o (a:At):Int:=depV (getP a.prs depS)
def bareL (l:List Blk):List Blk:=Blk.wkL (fun _=>[]) l
def allE (l:List Blk):List En:=tocL (q25 (bareL l)) 6
def uptoE (l:List En) (n:Int):List En:=l.filter fun e=>decide (e.lv<=n)
def fillK (l:List Blk) (a:At):List Blk:=q1v (uptoE (allE l) (q1o a))
def fillL (l:List Blk):List Blk:=Blk.wkL (fillK l) l
mutual
theorem Blk.wk_wk (K K':At->List Blk):∀ (b:Blk),(b.wk K').wk K=b.wk K
 | .mk k lv i t d ti a li ks=>by
  rw [Blk.wk,Blk.wk,Blk.wk]
  by_cases h:k=13/\i=tocS
  ·rw [if_pos h,if_pos h]
  ·rw [if_neg h,if_neg h,if_neg h,Blk.wkL_wk K K' ks]
theorem Blk.wkL_wk (K K':At->List Blk):∀ (l:List Blk),Blk.wkL K (Blk.wkL K' l)=Blk.wkL K l
 | []=>by simp only [Blk.wkL]
 | x::l=>by rw [Blk.wkL,Blk.wkL,Blk.wkL,Blk.wk_wk K K' x,Blk.wkL_wk K K' l]
end
theorem bare_fill (l:List Blk):bareL (fillL l)=bareL l:=Blk.wkL_wk _ _ l
theorem fill_fill (l:List Blk):fillL (fillL l)=fillL l:=by
 have h:fillK (fillL l)=fillK l:=by funext a;unfold fillK allE;rw [bare_fill]
 unfold fillL at h ⊢
 rw [h,Blk.wkL_wk]
theorem dep_bd (o:Option ByteArray):1<=depV o/\depV o<=6:=by
 unfold depV
 split
 ·split
  ·split<;>omega
  ·omega
 ·omega
theorem upto_toc (l:List Nm) (n:Int) (h:n<=6):uptoE (tocL l 6) n=tocL l n:=by
 unfold uptoE tocL
 rw [List.filter_map,List.filter_filter]
 congr 1
 apply List.filter_congr
 intro x _
 unfold shownB entOf
 simp only [Function.comp]
 by_cases h1:(levB x.val:Int)<=n
 ·have h2:(levB x.val:Int)<=6:=by omega
  simp [h1,h2]
 ·simp [h1]
theorem fillK_eq (l:List Blk) (a:At):fillK l a=q1v (tocL (q25 (bareL l)) (q1o a)):=by
 unfold fillK allE
 rw [upto_toc _ (q1o a) (show q1o a<=6 from (dep_bd _).2)]
theorem wkL_len (K:At->List Blk):∀ (l:List Blk),(Blk.wkL K l).length=l.length
 | []=>by rw [Blk.wkL]
 | x::l=>by rw [Blk.wkL,List.length_cons,List.length_cons,wkL_len K l]
theorem wkL_snoc (K:At->List Blk):∀ (l:List Blk) (k:Nat) (x:Blk),l[k]?=some x->Blk.wkL K (l.take (k+1))=Blk.wkL K (l.take k)++[x.wk K]
 | [],_,_,h=>by simp at h
 | y::l,0,x,h=>by
  simp at h;subst h
  simp [Blk.wkL]
 | y::l,k+1,x,h=>by
  rw [List.take_succ_cons,List.take_succ_cons,Blk.wkL,Blk.wkL,wkL_snoc K l k x (by simpa using h),List.cons_append]
open Go.RowKit
theorem infoEn:(Tryz.prog.info? 42).map (fun i=>(i.zero,i.size,i.bytes))=some (some (.agg #[.int .i64 0,.string ByteArray.empty,.string ByteArray.empty,.slice none 0 0,.slice none 0 0]),5,88):=by kernel_rfl
theorem Nm.open_ {ok:Nat->Prop} {w:World} {x:Nm} {cs:List Value} (h:Rd ok w x.d cs):∃ vl,cs=[.string x.id,.string x.kind,.string x.val,vl]/\Rd ok w (q0w x.line) [vl]:=by
 unfold Nm.d at h
 obtain ⟨_,g0,rfl⟩:=h.st_open
 obtain ⟨_,_,rfl,h1,g1⟩:=g0.cons_open
 obtain ⟨_,_,rfl,h2,g2⟩:=g1.cons_open
 obtain ⟨_,_,rfl,h3,g3⟩:=g2.cons_open
 obtain ⟨_,_,rfl,h4,g4⟩:=g3.cons_open
 obtain ⟨vl,rfl,h4⟩:=Rd.sl_one h4
 obtain rfl:=g4.nil_open
 obtain rfl:=h1.str_open
 obtain rfl:=h2.str_open
 obtain rfl:=h3.str_open
 exact ⟨vl,rfl,h4⟩
theorem nms_at {ok:Nat->Prop} {w:World} {l:List Nm} {a:Option Addr} {cap:Nat} (h:SlAt ok w 4 (l.map Nm.d) a cap) {k:Nat} {x:Nm} (hk:l[k]?=some x) :
  ∃ b off vl,a=some ⟨b,off,none⟩/\ok b/\b<w.heap.size/\w.cell? ⟨b,off+k*4,none⟩=some (.string x.id)/\w.cell? ⟨b,off+k*4+1,none⟩=some (.string x.kind)/\w.cell? ⟨b,off+k*4+2,none⟩=some (.string x.val)/\w.cell? ⟨b,off+k*4+3,none⟩=some vl/\Rd ok w (q0w x.line) [vl]:=by
 have hlt:k<l.length:=(List.getElem?_eq_some_iff.1 hk).1
 obtain ⟨b,off,ha,hok,hb,hc⟩:=h.at_ (by simpa using Nat.lt_of_le_of_lt (Nat.zero_le _) hlt)
 obtain ⟨r,hr,hl,hcell⟩:=hc k _ (by rw [List.getElem?_map,hk];rfl)
 obtain ⟨vl,rfl,hR⟩:=Nm.open_ hr
 exact ⟨b,off,vl,ha,hok,hb,hcell 0 _ rfl,hcell 1 _ rfl,hcell 2 _ rfl,hcell 3 _ rfl,hR⟩
structure EnR (ok:Nat->Prop) (w:World) (line:List Inl) (refs:List ByteArray) (vl vr:Value):Prop where
 line:Rd ok w (q0w line) [vl]
 refs:Rd ok w (strsD refs) [vr]
theorem En.open_ {ok:Nat->Prop} {w:World} {x:En} {cs:List Value} (h:Rd ok w x.d cs):∃ vl vr,cs=[.int .i64 x.lv,.string x.id,.string x.tx,vl,vr]/\EnR ok w x.line x.refs vl vr:=by
 unfold En.d at h
 obtain ⟨_,g0,rfl⟩:=h.st_open
 obtain ⟨_,_,rfl,h1,g1⟩:=g0.cons_open
 obtain ⟨_,_,rfl,h2,g2⟩:=g1.cons_open
 obtain ⟨_,_,rfl,h3,g3⟩:=g2.cons_open
 obtain ⟨_,_,rfl,h4,g4⟩:=g3.cons_open
 obtain ⟨_,_,rfl,h5,g5⟩:=g4.cons_open
 obtain ⟨vl,rfl,h4⟩:=Rd.sl_one h4
 obtain ⟨vr,rfl,h5⟩:=Rd.sl_one h5
 obtain rfl:=g5.nil_open
 obtain rfl:=h1.int_open
 obtain rfl:=h2.str_open
 obtain rfl:=h3.str_open
 exact ⟨vl,vr,rfl,h4,h5⟩
theorem En.mk_ (x:En) {ok:Nat->Prop} {w:World} {vl vr:Value} (h:EnR ok w x.line x.refs vl vr):Rd ok w x.d [.int .i64 x.lv,.string x.id,.string x.tx,vl,vr]:=
 Rd.st_mk (rows:=[[.int .i64 x.lv],[.string x.id],[.string x.tx],[vl],[vr]]) (RdL.cons (Rd.int_mk _ _ _ _) (RdL.cons (Rd.str_mk _ _ _) (RdL.cons (Rd.str_mk _ _ _) (RdL.cons h.line (RdL.one h.refs)))))
theorem ens_at {ok:Nat->Prop} {w:World} {l:List En} {a:Option Addr} {cap:Nat} (h:SlAt ok w 5 (l.map En.d) a cap) {k:Nat} {x:En} (hk:l[k]?=some x) :
  ∃ b off vl vr,a=some ⟨b,off,none⟩/\ok b/\b<w.heap.size/\w.cell? ⟨b,off+k*5,none⟩=some (.int .i64 x.lv)/\w.cell? ⟨b,off+k*5+1,none⟩=some (.string x.id)/\w.cell? ⟨b,off+k*5+2,none⟩=some (.string x.tx)/\w.cell? ⟨b,off+k*5+3,none⟩=some vl/\w.cell? ⟨b,off+k*5+4,none⟩=some vr/\EnR ok w x.line x.refs vl vr:=by
 have hlt:k<l.length:=(List.getElem?_eq_some_iff.1 hk).1
 obtain ⟨b,off,ha,hok,hb,hc⟩:=h.at_ (by simpa using Nat.lt_of_le_of_lt (Nat.zero_le _) hlt)
 obtain ⟨r,hr,hl,hcell⟩:=hc k _ (by rw [List.getElem?_map,hk];rfl)
 obtain ⟨vl,vr,rfl,hR⟩:=En.open_ hr
 exact ⟨b,off,vl,vr,ha,hok,hb,hcell 0 _ rfl,hcell 1 _ rfl,hcell 2 _ rfl,hcell 3 _ rfl,hcell 4 _ rfl,hR⟩
theorem one_five {lv:Int} {id tx:ByteArray} {al ar:Option Addr} {nl nr cl cr:Nat}:∀ u∈([.int .i64 lv,.string id,.string tx,.slice al nl cl,.slice ar nr cr]:List Value),u.oneCell'=true:=by
 intro u hu
 simp at hu
 rcases hu with rfl | rfl | rfl | rfl | rfl<;>rfl
end Go.Proofs.YtlbioncagkkkoaaGreatDoor

