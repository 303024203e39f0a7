/- Plain part: filled tables of contents: where entries come from, what lists hold, how large they are. Contract of publisherlaw24.heading. The walk of publisherlaw24.TocLeads. -/
import Derived.Test.YtlbioncagkkkoaaGreatDoorKPlMz
import Derived.Test.YtlbioncagkkkoaaGreatDoorKPlSb
import Derived.Test.YtlbioncagkkkoaaGreatDoorKChW
import Derived.Test.YtlbioncagkkkoaaGreatDoorKTwA
import Derived.BigQuiet
import Derived.Deep.QuietTactic
import Derived.Test.YtlbioncagkkkoaaGreatDoorKSameBl
import Derived.Test.YtlbioncagkkkoaaGreatDoorKRInls
import Derived.Test.YtlbioncagkkkoaaGreatDoorKRpF
import Derived.Deep.RegionHeld3
set_option maxHeartbeats 8000000
set_option maxRecDepth 100000
namespace Go.Proofs.YtlbioncagkkkoaaGreatDoor
set_option linter.unusedVariables false
set_option linter.unusedSimpArgs false
def Blk.atOf:Blk->At
 | .mk _ _ _ _ _ _ a _ _=>a
def Blk.kidsOf:Blk->List Blk
 | .mk _ _ _ _ _ _ _ _ ks=>ks
def SecFrom (L:List Blk) (x:Nm):Prop:=x.kind=secS->∃ b∈L,b.kindOf=2/\b.atOf.id=x.id/\b.lineOf=x.line
theorem one_sec (L:List Blk) (free:Bool) (s:Ns) (k lv:Int) (i t d ti:ByteArray) (a:At) (li:List Inl) (ks:List Blk) (hb:Blk.mk k lv i t d ti a li ks∈L) (hs:∀ x∈s.out,SecFrom L x):∀ x∈(q2g free s k lv i a li ks).out,SecFrom L x:=by
 have add:∀ (y:Nm),SecFrom L y->∀ x∈s.out++[y],SecFrom L x:=by
  intro y hy x hx
  rcases List.mem_append.1 hx with hx | hx
  ·exact hs x hx
  ·simp at hx;subst hx;exact hy
 unfold q2g
 split
 ·rename_i h
  exact add _ (fun _=>⟨_,hb,h.1,rfl,rfl⟩)
 ·split
  ·exact add _ (fun h=>absurd (show figS=secS from h) (by decide))
  ·split
   ·exact add _ (fun h=>absurd (show tabS=secS from h) (by decide))
   ·split
    ·exact add _ (fun h=>absurd (show equS=secS from h) (by decide))
    ·exact hs
mutual
theorem Blk.num_sec (L:List Blk):∀ (b:Blk) (free:Bool) (s:Ns),(∀ x∈b.each,x∈L)->(∀ x∈s.out,SecFrom L x)->∀ x∈(b.num free s).out,SecFrom L x
 | .mk k lv i t d ti a li ks,free,s,h,hs=>by
  rw [Blk.each] at h
  rw [Blk.num]
  exact Blk.numL_sec L ks _ _ (fun x hx=>h x (List.mem_cons_of_mem _ hx)) (one_sec L free s k lv i t d ti a li ks (h _ (List.mem_cons_self ..)) hs)
theorem Blk.numL_sec (L:List Blk):∀ (l:List Blk) (free:Bool) (s:Ns),(∀ x∈Blk.eachL l,x∈L)->(∀ x∈s.out,SecFrom L x)->∀ x∈(Blk.numL free s l).out,SecFrom L x
 | [],_,_,_,hs=>by rw [Blk.numL];exact hs
 | x::l,free,s,h,hs=>by
  rw [Blk.eachL] at h
  rw [Blk.numL]
  exact Blk.numL_sec L l _ _ (fun y hy=>h y (List.mem_append_right _ hy)) (Blk.num_sec L x free s (fun y hy=>h y (List.mem_append_left _ hy)) hs)
end
theorem nums_sec (l:List Blk):∀ x∈q25 l,SecFrom (Blk.eachL l) x:=by
 intro x hx
 unfold q25 at hx
 rcases List.mem_append.1 hx with hx | hx
 ·exact Blk.numL_sec _ l true ns0 (fun _ h=>h) (by simp [ns0]) x hx
 ·intro hk
  rw [note_kind _ _ x hx] at hk
  exact absurd hk (by decide)
mutual
theorem Blk.bare_from:∀ (b x:Blk),x∈(b.wk fun _=>[]).each->∃ y∈b.each,x.kindOf=y.kindOf/\x.atOf=y.atOf/\x.lineOf=y.lineOf
 | .mk k lv i t d ti a li ks,x,h=>by
  rw [Blk.wk,Blk.each] at h
  rw [Blk.each]
  rcases List.mem_cons.1 h with rfl | h
  ·exact ⟨_,List.mem_cons_self ..,rfl,rfl,rfl⟩
  ·split at h
   ·rw [Blk.eachL] at h;cases h
   ·obtain ⟨y,hy,e⟩:=Blk.bareL_from ks x h
    exact ⟨y,List.mem_cons_of_mem _ hy,e⟩
theorem Blk.bareL_from:∀ (l:List Blk) (x:Blk),x∈Blk.eachL (Blk.wkL (fun _=>[]) l)->∃ y∈Blk.eachL l,x.kindOf=y.kindOf/\x.atOf=y.atOf/\x.lineOf=y.lineOf
 | [],x,h=>by rw [Blk.wkL,Blk.eachL] at h;cases h
 | b::l,x,h=>by
  rw [Blk.wkL,Blk.eachL] at h
  rw [Blk.eachL]
  rcases List.mem_append.1 h with h | h
  ·obtain ⟨y,hy,e⟩:=Blk.bare_from b x h
   exact ⟨y,List.mem_append_left _ hy,e⟩
  ·obtain ⟨y,hy,e⟩:=Blk.bareL_from l x h
   exact ⟨y,List.mem_append_right _ hy,e⟩
end
def HeadOk (b:Blk):Prop:=b.kindOf=2->b.atOf.err=0/\Inl.srcL b.lineOf
mutual
theorem Blk.err_head (cl:ByteArray->Bool):∀ (b:Blk) (par:Int) (dp:Nat),b.err cl par dp=0->∀ x∈b.each,HeadOk x
 | .mk k lv i t d ti a li ks,par,dp,h,x,hx=>by
  rw [Blk.err] at h
  rw [Blk.each] at hx
  split at h
  ·cases h
  ·split at h
   ·cases h
   ·split at h
    ·rename_i h1;exact absurd h h1
    ·rename_i h1
     rcases List.mem_cons.1 hx with rfl | hx
     ·intro hk
      have hk2:k=2:=hk
      subst hk2
      have h2:=Classical.not_not.1 h1
      unfold q1z at h2
      rw [if_neg (by decide),if_pos rfl] at h2
      split at h2
      ·cases h2
      ·split at h2
       ·rename_i h3;exact absurd h2 h3
       ·rename_i h3
        split at h2
        ·cases h2
        ·exact ⟨Classical.not_not.1 h3,Inl.errL_src li _ _ _ h2⟩
     ·exact Blk.errL_head cl ks k (dp+1) h x hx
theorem Blk.errL_head (cl:ByteArray->Bool):∀ (l:List Blk) (par:Int) (dp:Nat),Blk.errL cl par dp l=0->∀ x∈Blk.eachL l,HeadOk x
 | [],_,_,_,x,hx=>by rw [Blk.eachL] at hx;cases hx
 | b::l,par,dp,h,x,hx=>by
  rw [Blk.errL] at h
  rw [Blk.eachL] at hx
  split at h
  ·rename_i h1;exact absurd h h1
  ·rename_i h1
   rcases List.mem_append.1 hx with hx | hx
   ·exact Blk.err_head cl b par dp (Classical.not_not.1 h1) x hx
   ·exact Blk.errL_head cl l par dp h x hx
end
theorem nmB_asc (c:UInt8) (h:nmB c=true):32<=c.toNat/\c.toNat<127:=by
 unfold nmB nmC ltrC inR at h
 simp only [Bool.or_eq_true,Bool.and_eq_true,decide_eq_true_eq] at h
 omega
theorem tw_all (p:UInt8->Bool):∀ (l:List UInt8),(l.takeWhile p).length=l.length->∀ c∈l,p c=true
 | [],_,c,hc=>by cases hc
 | x::l,h,c,hc=>by
  rw [List.takeWhile_cons] at h
  split at h
  ·rename_i hx
   rcases List.mem_cons.1 hc with rfl | hc
   ·exact hx
   ·exact tw_all p l (by simpa using h) c hc
  ·simp at h
theorem name_asc (s:ByteArray) (h:q0a s=true):AscS s:=by
 unfold q0a at h
 simp only [Bool.and_eq_true,decide_eq_true_eq] at h
 have h1:=h.2
 unfold wEnd0 at h1
 intro c hc
 exact nmB_asc c (tw_all nmB _ (by rw [h1,len_size]) c hc)
theorem err_idName (a:At) (h:a.err=0) (hn:q06 a.id=false):q0a a.id=true:=by
 unfold At.err at h
 cases hx:q0a a.id
 ·rw [if_pos ⟨hn,hx⟩] at h;cases h
 ·rfl
theorem dec_asc (n:Nat):∀ c∈Lib.decDigits n,32<=c.toNat/\c.toNat<127:=by
 induction n using Nat.strongRecOn with
 | _ n ih=>
  intro c hc
  rw [Lib.decDigits] at hc
  have hd:∀ m:Nat,m<10->32<=(UInt8.ofNat (48+m)).toNat/\(UInt8.ofNat (48+m)).toNat<127:=by
   intro m hm
   have:(UInt8.ofNat (48+m)).toNat=48+m:=by simp;omega
   omega
  split at hc
  ·rename_i h
   rw [List.mem_singleton] at hc;subst hc
   exact hd n h
  ·rcases List.mem_append.1 hc with hc | hc
   ·exact ih (n/10) (by omega) c hc
   ·rw [List.mem_singleton] at hc;subst hc
    exact hd (n%10) (by omega)
theorem dot_asc:∀ (l:List (List UInt8)),(∀ x∈l,∀ c∈x,32<=c.toNat/\c.toNat<127)->∀ c∈dotL l,32<=c.toNat/\c.toNat<127
 | [],_,c,hc=>by rw [dotL] at hc;cases hc
 | [x],h,c,hc=>by rw [dotL] at hc;exact h x (by simp) c hc
 | x::y::l,h,c,hc=>by
  rw [dotL] at hc
  rcases List.mem_append.1 hc with hc | hc
  ·exact h x (by simp) c hc
  ·rcases List.mem_cons.1 hc with rfl | hc
   ·decide
   ·exact dot_asc (y::l) (fun z hz=>h z (List.mem_cons_of_mem _ hz)) c hc
theorem val_asc (c:List Nat) (k:Nat):AscS (valS c k):=by
 unfold valS AscS
 rw [List.toList_toArray]
 exact dot_asc _ (fun x hx=>by
  obtain ⟨n,-,rfl⟩:=List.mem_map.1 hx
  exact dec_asc n)
theorem decS_asc (n:Nat):AscS (decS n):=by unfold decS AscS;rw [List.toList_toArray];exact dec_asc n
def VaOk (x:Nm):Prop:=AscS x.val
theorem one_va (free:Bool) (s:Ns) (k lv:Int) (i:ByteArray) (a:At) (li:List Inl) (ks:List Blk) (hs:∀ x∈s.out,VaOk x):∀ x∈(q2g free s k lv i a li ks).out,VaOk x:=by
 have add:∀ (y:Nm),VaOk y->∀ x∈s.out++[y],VaOk x:=by
  intro y hy x hx
  rcases List.mem_append.1 hx with hx | hx
  ·exact hs x hx
  ·simp at hx;subst hx;exact hy
 unfold q2g
 split
 ·exact add _ (val_asc _ _)
 ·split
  ·exact add _ (decS_asc _)
  ·split
   ·exact add _ (decS_asc _)
   ·split
    ·exact add _ (decS_asc _)
    ·exact hs
mutual
theorem Blk.num_va:∀ (b:Blk) (free:Bool) (s:Ns),(∀ x∈s.out,VaOk x)->∀ x∈(b.num free s).out,VaOk x
 | .mk k lv i t d ti a li ks,free,s,hs=>by
  rw [Blk.num]
  exact Blk.numL_va ks _ _ (one_va free s k lv i a li ks hs)
theorem Blk.numL_va:∀ (l:List Blk) (free:Bool) (s:Ns),(∀ x∈s.out,VaOk x)->∀ x∈(Blk.numL free s l).out,VaOk x
 | [],_,_,hs=>by rw [Blk.numL];exact hs
 | x::l,free,s,hs=>by
  rw [Blk.numL]
  exact Blk.numL_va l _ _ (Blk.num_va x free s hs)
end
theorem note_va:∀ (l:List ByteArray) (j:Nat),∀ x∈q1j j l,VaOk x
 | [],_,x,hx=>by simp [q1j] at hx
 | y::l,j,x,hx=>by
  rw [q1j] at hx
  rcases List.mem_cons.1 hx with rfl | hx
  ·exact decS_asc _
  ·exact note_va l (j+1) x hx
theorem nums_va (l:List Blk):∀ x∈q25 l,VaOk x:=by
 intro x hx
 unfold q25 at hx
 rcases List.mem_append.1 hx with hx | hx
 ·exact Blk.numL_va l true ns0 (by simp [ns0]) x hx
 ·exact note_va _ 0 x hx
theorem toc_wf (cl:ByteArray->Bool) (l:List Blk) (he:Blk.errL cl 0 0 l=0) (dep:Int):∀ e∈tocL (q25 (bareL l)) dep,EnWf e:=by
 intro e hx
 obtain ⟨n,hn,hk,hid,hval,hln,-,-,hem⟩:=tocL_from _ _ _ hx
 obtain ⟨b,hb,hb1,hb2,hb3⟩:=nums_sec _ n hn hk
 obtain ⟨y,hy,g1,g2,g3⟩:=Blk.bareL_from l b hb
 obtain ⟨q1,q2⟩:=Blk.errL_head cl l 0 0 he y hy (by rw [<- g1];exact hb1)
 have q3:=Blk.errL_kid cl l 0 0 he y hy
 rw [<- g2] at q1
 rw [<- g3,hb3] at q2 q3
 have q4:q0a n.id=true:=by
  rw [<- hb2];exact err_idName _ q1 (by rw [hb2];exact hem)
 refine ⟨by rw [<- hid];exact name_asc _ q4,by rw [hln];exact entL_ok _ q2,by rw [hln];exact entL_sig _ q3,by rw [<- hval];exact nums_va _ n hn⟩
mutual
def Blk.hdg (id:ByteArray):Blk->Bool
 | .mk k _ _ _ _ _ a _ ks=>(decide (k=2)&&decide (a.id=id))||Blk.hdgL id ks
def Blk.hdgL (id:ByteArray):List Blk->Bool
 | []=>false
 | x::l=>x.hdg id||Blk.hdgL id l
end
mutual
theorem Blk.each_hdg (id:ByteArray):∀ (b x:Blk),x∈b.each->x.kindOf=2->x.atOf.id=id->b.hdg id=true
 | .mk k lv i t d ti a li ks,x,hx,h1,h2=>by
  rw [Blk.each] at hx
  rw [Blk.hdg]
  rcases List.mem_cons.1 hx with rfl | hx
  ·have h1':k=2:=h1
   have h2':a.id=id:=h2
   rw [decide_eq_true h1',decide_eq_true h2'];rfl
  ·rw [Blk.eachL_hdg id ks x hx h1 h2,Bool.or_true]
theorem Blk.eachL_hdg (id:ByteArray):∀ (l:List Blk) (x:Blk),x∈Blk.eachL l->x.kindOf=2->x.atOf.id=id->Blk.hdgL id l=true
 | [],x,hx,_,_=>by rw [Blk.eachL] at hx;cases hx
 | b::l,x,hx,h1,h2=>by
  rw [Blk.eachL] at hx
  rw [Blk.hdgL]
  rcases List.mem_append.1 hx with hx | hx
  ·rw [Blk.each_hdg id b x hx h1 h2];rfl
  ·rw [Blk.eachL_hdg id l x hx h1 h2,Bool.or_true]
end
mutual
theorem Blk.bare_hdg (id:ByteArray) (K:At->List Blk):∀ (b:Blk),(b.wk fun _=>[]).hdg id=true->(b.wk K).hdg id=true
 | .mk k lv i t d ti a li ks,h=>by
  rw [Blk.wk,Blk.hdg,Bool.or_eq_true] at h
  rw [Blk.wk,Blk.hdg,Bool.or_eq_true]
  rcases h with h | h
  ·exact .inl h
  ·split at h
   ·rw [Blk.hdgL] at h;cases h
   ·rename_i hc
    rw [if_neg hc]
    exact .inr (Blk.bareL_hdg id K ks h)
theorem Blk.bareL_hdg (id:ByteArray) (K:At->List Blk):∀ (l:List Blk),Blk.hdgL id (Blk.wkL (fun _=>[]) l)=true->Blk.hdgL id (Blk.wkL K l)=true
 | [],h=>by rw [Blk.wkL,Blk.hdgL] at h;cases h
 | b::l,h=>by
  rw [Blk.wkL,Blk.hdgL,Bool.or_eq_true] at h
  rw [Blk.wkL,Blk.hdgL,Bool.or_eq_true]
  exact h.imp (Blk.bare_hdg id K b) (Blk.bareL_hdg id K l)
end
theorem toc_hdg (l:List Blk) (K:At->List Blk) (dep:Int):∀ e∈tocL (q25 (bareL l)) dep,Blk.hdgL e.id (Blk.wkL K l)=true/\q06 e.id=false:=by
 intro e hx
 obtain ⟨n,hn,hk,hid,-,-,-,-,hem⟩:=tocL_from _ _ _ hx
 obtain ⟨b,hb,hb1,hb2,hb3⟩:=nums_sec _ n hn hk
 rw [<- hid]
 exact ⟨Blk.bareL_hdg _ K l (Blk.eachL_hdg _ _ b hb hb1 hb2),hem⟩
mutual
theorem Inl.sig_deepk:∀ (x:Inl),x.sig entP->∀ y∈x.deep,y.kd≠9
 | .mk k t d ti a ar ci ks,h,y,hy=>by
  rw [Inl.sig] at h
  rw [Inl.deep] at hy
  rcases List.mem_cons.1 hy with rfl | hy
  ·exact h.1.1
  ·exact Inl.sigL_deepk ks h.2 y hy
theorem Inl.sigL_deepk:∀ (l:List Inl),Inl.sigL entP l->∀ y∈Inl.deepL l,y.kd≠9
 | [],_,y,hy=>by rw [Inl.deepL] at hy;cases hy
 | x::l,h,y,hy=>by
  rw [Inl.sigL] at h
  rw [Inl.deepL] at hy
  rcases List.mem_append.1 hy with hy | hy
  ·exact Inl.sig_deepk x h.1 y hy
  ·exact Inl.sigL_deepk l h.2 y hy
end
theorem tw_sub {l:List En} {p:En->Bool} {x:En} (h:x∈l.takeWhile p):x∈l:=(List.takeWhile_prefix p).subset h
theorem dw_sub {l:List En} {p:En->Bool} {x:En} (h:x∈l.dropWhile p):x∈l:=(List.dropWhile_suffix p).subset h
theorem bul_inls (items:List Blk):Blk.inlsL (bulB items)=Blk.inlsL items:=by
 unfold bulB
 split
 ·rename_i h
  rw [List.isEmpty_iff] at h
  rw [h]
 ·rw [Blk.inlsL,Blk.inls,Inl.deepL,Blk.inlsL,List.append_nil];rfl
theorem items_inls (e:En) (l:List En):Blk.inlsL (q1r (e::l))=(Inl.deepL [q21 e]++Blk.inlsL (q1r (l.takeWhile e.over)))++Blk.inlsL (q1r (l.dropWhile e.over)):=by
 rw [q14,Blk.inlsL]
 unfold itemB
 rw [Blk.inls,Inl.deepL,List.nil_append,Blk.inlsL]
 unfold paraB q1v
 rw [Blk.inls,bul_inls]
 rw [show Blk.inlsL ([]:List Blk)=[] by rw [Blk.inlsL],List.append_nil]
theorem items_link (n:Nat):∀ (l:List En),l.length<=n->(∀ e∈l,EnWf e)->∀ x∈Blk.inlsL (q1r l),x.kd=9->∃ e∈l,x=q21 e:=by
 induction n with
 | zero=>
  intro l hl _ x hx
  rw [List.eq_nil_of_length_eq_zero (Nat.le_zero.1 hl),q0f,Blk.inlsL] at hx;cases hx
 | succ n ih=>
  intro l hl h x hx hk
  cases l with
  | nil=>rw [q0f,Blk.inlsL] at hx;cases hx
  | cons e l=>
   rw [List.length_cons] at hl
   have h1:=q26 e.over l
   have h2:=q2e e.over l
   rw [items_inls] at hx
   rcases List.mem_append.1 hx with hx | hx
   ·rcases List.mem_append.1 hx with hx | hx
    ·rw [Inl.deepL,show Inl.deepL ([]:List Inl)=[] by rw [Inl.deepL],List.append_nil] at hx
     have e0:(q21 e).deep=q21 e::Inl.deepL (Inl.mergeL (q0z e)):=by unfold q21;rw [Inl.deep]
     rw [e0] at hx
     rcases List.mem_cons.1 hx with rfl | hx
     ·exact ⟨e,List.mem_cons_self ..,rfl⟩
     ·exact absurd hk (Inl.sigL_deepk _ (sh_sig e (h e (List.mem_cons_self ..))) x hx)
    ·obtain ⟨y,hy,r⟩:=ih _ (by omega) (fun y hy=>h y (List.mem_cons_of_mem _ (tw_sub hy))) x hx hk
     exact ⟨y,List.mem_cons_of_mem _ (tw_sub hy),r⟩
   ·obtain ⟨y,hy,r⟩:=ih _ (by omega) (fun y hy=>h y (List.mem_cons_of_mem _ (dw_sub hy))) x hx hk
    exact ⟨y,List.mem_cons_of_mem _ (dw_sub hy),r⟩
theorem list_link (l:List En) (h:∀ e∈l,EnWf e):∀ x∈Blk.inlsL (q1v l),x.kd=9->∃ e∈l,x=q21 e:=by
 unfold q1v
 rw [bul_inls]
 exact items_link l.length l (Nat.le_refl _) h
theorem dw_tw {p:En->Bool} (l:List En):(l.takeWhile p).length+(l.dropWhile p).length=l.length:=by
 rw [<- List.length_append,List.takeWhile_append_dropWhile]
theorem items_cnt (n:Nat):∀ (l:List En),l.length<=n->(∀ e∈l,EnMd e)->(Blk.inlsL (q1r l)).length<=122*l.length:=by
 induction n with
 | zero=>
  intro l hl _
  rw [List.eq_nil_of_length_eq_zero (Nat.le_zero.1 hl),q0f,Blk.inlsL];simp
 | succ n ih=>
  intro l hl h
  cases l with
  | nil=>rw [q0f,Blk.inlsL];simp
  | cons e l=>
   rw [List.length_cons] at hl
   have h1:=q26 e.over l
   have h2:=q2e e.over l
   have h3:=dw_tw (p:=e.over) l
   have ht:=ih _ (Nat.le_trans h1 (by omega)) (fun y hy=>h y (List.mem_cons_of_mem _ (tw_sub hy)))
   have hd:=ih _ (Nat.le_trans h2 (by omega)) (fun y hy=>h y (List.mem_cons_of_mem _ (dw_sub hy)))
   rw [items_inls,List.length_append,List.length_append,Inl.deepL_sz,szL_one,List.length_cons]
   have h5:(q21 e).sz<=122:=by
    unfold q21
    rw [Inl.sz]
    have h6:=Inl.mergeA_szle (q0z e) []
    have h7:=md_sz e (h e (List.mem_cons_self ..))
    have h8:Inl.szL ([]:List Inl)=0:=by rw [Inl.szL]
    unfold Inl.mergeL
    omega
   omega
theorem list_cnt (l:List En) (h:∀ e∈l,EnMd e):(Blk.inlsL (q1v l)).length<=122*l.length:=by
 unfold q1v
 rw [bul_inls]
 exact items_cnt l.length l (Nat.le_refl _) h
theorem bul_sz (items:List Blk):Blk.szL (bulB items)<=1+Blk.szL items:=by
 unfold bulB
 split
 ·rw [Blk.szL];omega
 ·rw [Blk.szL,Blk.sz,Blk.szL];omega
theorem items_sz (n:Nat):∀ (l:List En),l.length<=n->Blk.szL (q1r l)<=3*l.length:=by
 induction n with
 | zero=>
  intro l hl
  rw [List.eq_nil_of_length_eq_zero (Nat.le_zero.1 hl),q0f,Blk.szL];omega
 | succ n ih=>
  intro l hl
  cases l with
  | nil=>rw [q0f,Blk.szL];omega
  | cons e l=>
   rw [List.length_cons] at hl
   have h1:=q26 e.over l
   have h2:=q2e e.over l
   have h3:=dw_tw (p:=e.over) l
   have ht:=ih _ (Nat.le_trans h1 (by omega))
   have hd:=ih _ (Nat.le_trans h2 (by omega))
   have hb:=bul_sz (q1r (l.takeWhile e.over))
   rw [q14,Blk.szL,List.length_cons]
   unfold itemB
   rw [Blk.sz,Blk.szL]
   unfold paraB q1v
   rw [Blk.sz,show Blk.szL ([]:List Blk)=0 by rw [Blk.szL]]
   omega
theorem list_sz (l:List En):Blk.szL (q1v l)<=3*l.length+1:=by
 have:=items_sz l.length l (Nat.le_refl _)
 have:=bul_sz (q1r l)
 unfold q1v
 omega
def lisK (b:Blk):Prop:=b.kindOf=7\/b.kindOf=9\/b.kindOf=1
theorem bul_each (items:List Blk) (h:∀ b∈Blk.eachL items,lisK b):∀ b∈Blk.eachL (bulB items),lisK b:=by
 unfold bulB
 split
 ·intro b hb;rw [Blk.eachL] at hb;cases hb
 ·intro b hb
  rw [Blk.eachL,Blk.each,show Blk.eachL ([]:List Blk)=[] by rw [Blk.eachL],List.append_nil] at hb
  rcases List.mem_cons.1 hb with rfl | hb
  ·exact .inl rfl
  ·exact h b hb
theorem items_each (n:Nat):∀ (l:List En),l.length<=n->∀ b∈Blk.eachL (q1r l),lisK b:=by
 induction n with
 | zero=>
  intro l hl b hb
  rw [List.eq_nil_of_length_eq_zero (Nat.le_zero.1 hl),q0f,Blk.eachL] at hb;cases hb
 | succ n ih=>
  intro l hl b hb
  cases l with
  | nil=>rw [q0f,Blk.eachL] at hb;cases hb
  | cons e l=>
   rw [List.length_cons] at hl
   have h1:=q26 e.over l
   have h2:=q2e e.over l
   rw [q14,Blk.eachL] at hb
   rcases List.mem_append.1 hb with hb | hb
   ·unfold itemB at hb
    rw [Blk.each] at hb
    rcases List.mem_cons.1 hb with rfl | hb
    ·exact .inr (.inl rfl)
    ·rw [Blk.eachL] at hb
     rcases List.mem_append.1 hb with hb | hb
     ·unfold paraB at hb
      rw [Blk.each,Blk.eachL] at hb
      simp at hb;subst hb
      exact .inr (.inr rfl)
     ·exact bul_each _ (ih _ (by omega)) b hb
   ·exact ih _ (by omega) b hb
theorem list_each (l:List En):∀ b∈Blk.eachL (q1v l),lisK b:=bul_each _ (items_each l.length l (Nat.le_refl _))
mutual
theorem Blk.wk_toc (K:At->List Blk) (hK:∀ a,∀ b∈Blk.eachL (K a),lisK b):∀ (b x:Blk),x∈(b.wk K).each->x.kindOf=13->x.infoOf=tocS->x.kidsOf=K x.atOf
 | .mk k lv i t d ti a li ks,x,hx,h1,h2=>by
  rw [Blk.wk,Blk.each] at hx
  rcases List.mem_cons.1 hx with rfl | hx
  ·show (if k=13/\i=tocS then K a else Blk.wkL K ks)=K a
   rw [if_pos ⟨h1,h2⟩]
  ·split at hx
   ·have:=hK a x hx
    unfold lisK at this
    omega
   ·exact Blk.wkL_toc K hK ks x hx h1 h2
theorem Blk.wkL_toc (K:At->List Blk) (hK:∀ a,∀ b∈Blk.eachL (K a),lisK b):∀ (l:List Blk) (x:Blk),x∈Blk.eachL (Blk.wkL K l)->x.kindOf=13->x.infoOf=tocS->x.kidsOf=K x.atOf
 | [],x,hx,_,_=>by rw [Blk.wkL,Blk.eachL] at hx;cases hx
 | b::l,x,hx,h1,h2=>by
  rw [Blk.wkL,Blk.eachL] at hx
  rcases List.mem_append.1 hx with hx | hx
  ·exact Blk.wk_toc K hK b x hx h1 h2
  ·exact Blk.wkL_toc K hK l x hx h1 h2
end
mutual
theorem Blk.wk_sz (K:At->List Blk) (M:Nat) (hK:∀ a,Blk.szL (K a)<=M):∀ (b:Blk),(b.wk K).sz<=b.sz*(1+M)
 | .mk k lv i t d ti a li ks=>by
  rw [Blk.wk,Blk.sz,Blk.sz,Nat.add_mul,Nat.one_mul]
  split
  ·have:=hK a;omega
  ·have:=Blk.wkL_sz K M hK ks;omega
theorem Blk.wkL_sz (K:At->List Blk) (M:Nat) (hK:∀ a,Blk.szL (K a)<=M):∀ (l:List Blk),Blk.szL (Blk.wkL K l)<=Blk.szL l*(1+M)
 | []=>by rw [Blk.wkL,Blk.szL];omega
 | b::l=>by
  rw [Blk.wkL,Blk.szL,Blk.szL,Nat.add_mul]
  have:=Blk.wk_sz K M hK b
  have:=Blk.wkL_sz K M hK l
  omega
end
mutual
theorem Blk.wk_bd (K:At->List Blk) (hK:∀ a,Blk.bdL (K a)):∀ (b:Blk),b.bd->(b.wk K).bd
 | .mk k lv i t d ti a li ks,h=>by
  rw [Blk.bd] at h
  obtain ⟨h1,h2,h3,h4,h5⟩:=h
  rw [Blk.wk,Blk.bd]
  refine ⟨h1,h2,h3,h4,?_⟩
  split
  ·exact hK a
  ·exact Blk.wkL_bd K hK ks h5
theorem Blk.wkL_bd (K:At->List Blk) (hK:∀ a,Blk.bdL (K a)):∀ (l:List Blk),Blk.bdL l->Blk.bdL (Blk.wkL K l)
 | [],h=>by rw [Blk.wkL];exact h
 | b::l,h=>by
  rw [Blk.bdL] at h
  rw [Blk.wkL,Blk.bdL]
  exact ⟨Blk.wk_bd K hK b h.1,Blk.wkL_bd K hK l h.2⟩
end
theorem bul_bd (items:List Blk) (h:Blk.bdL items):Blk.bdL (bulB items):=by
 unfold bulB
 split
 ·rw [Blk.bdL];trivial
 ·rw [Blk.bdL,Blk.bd,Blk.bdL,Inl.bdL,Inl.szL]
  exact ⟨⟨by simp [at0],by simp [at0],trivial,by omega,h⟩,trivial⟩
theorem shown_bd (e:En) (h:EnMd e):Inl.bdL [q21 e]/\Inl.szL [q21 e]<=122:=by
 constructor
 ·refine bd_one ?_
  unfold q21
  rw [Inl.bd]
  exact ⟨by simp [at0],by simp [at0],by simp,by simp,Inl.bd_mergeA _ [] bd_nil (md_bd e h)⟩
 ·rw [szL_one]
  unfold q21
  rw [Inl.sz]
  have h6:=Inl.mergeA_szle (q0z e) []
  have h7:=md_sz e h
  have h8:Inl.szL ([]:List Inl)=0:=by rw [Inl.szL]
  unfold Inl.mergeL
  omega
theorem items_bd (n:Nat):∀ (l:List En),l.length<=n->(∀ e∈l,EnMd e)->Blk.bdL (q1r l):=by
 induction n with
 | zero=>
  intro l hl _
  rw [List.eq_nil_of_length_eq_zero (Nat.le_zero.1 hl),q0f,Blk.bdL];trivial
 | succ n ih=>
  intro l hl h
  cases l with
  | nil=>rw [q0f,Blk.bdL];trivial
  | cons e l=>
   rw [List.length_cons] at hl
   have h1:=q26 e.over l
   have h2:=q2e e.over l
   have ht:=ih _ (Nat.le_trans h1 (by omega)) (fun y hy=>h y (List.mem_cons_of_mem _ (tw_sub hy)))
   have hd:=ih _ (Nat.le_trans h2 (by omega)) (fun y hy=>h y (List.mem_cons_of_mem _ (dw_sub hy)))
   obtain ⟨s1,s2⟩:=shown_bd e (h e (List.mem_cons_self ..))
   rw [q14,Blk.bdL]
   refine ⟨?_,hd⟩
   unfold itemB
   rw [Blk.bd,Inl.bdL,Inl.szL,Blk.bdL]
   refine ⟨by simp [at0],by simp [at0],trivial,by omega,?_,bul_bd _ ht⟩
   unfold paraB
   rw [Blk.bd,Blk.bdL]
   exact ⟨by simp [at0],by simp [at0],s1,by omega,trivial⟩
theorem list_bd (l:List En) (h:∀ e∈l,EnMd e):Blk.bdL (q1v l):=bul_bd _ (items_bd l.length l (Nat.le_refl _) h)
def Inl.shW:Inl->Prop
 | .mk _ _ d ti a ar ci _=>d.size<=1000/\ti.size<=1000/\a.short/\(∀ c∈ar,c.size<=5000)/\(∀ c∈ci,c.key.size<=5000/\c.pre.size<=5000/\c.suf.size<=5000)
mutual
def Inl.sh:Inl->Prop
 | .mk k t d ti a ar ci ks=>(Inl.mk k t d ti a ar ci ks).shW/\Inl.shL ks
def Inl.shL:List Inl->Prop
 | []=>True
 | x::l=>x.sh/\Inl.shL l
end
theorem shw_nil:Inl.shL []:=by rw [Inl.shL];trivial
theorem shw_app:∀ (l m:List Inl),Inl.shL l->Inl.shL m->Inl.shL (l++m)
 | [],m,_,h=>h
 | x::l,m,h,h2=>by rw [Inl.shL] at h;rw [List.cons_append,Inl.shL];exact ⟨h.1,shw_app l m h.2 h2⟩
theorem shw_one {x:Inl} (h:x.sh):Inl.shL [x]:=by rw [Inl.shL,Inl.shL];exact ⟨h,trivial⟩
theorem shw_mem:∀ (l:List Inl),Inl.shL l->∀ x∈l,x.sh
 | x::l,h,y,hy=>by
  rw [Inl.shL] at h
  rcases List.mem_cons.1 hy with rfl | hy
  ·exact h.1
  ·exact shw_mem l h.2 y hy
theorem shw_of:∀ (l:List Inl),(∀ x∈l,x.sh)->Inl.shL l
 | [],_=>shw_nil
 | x::l,h=>by rw [Inl.shL];exact ⟨h x (List.mem_cons_self ..),shw_of l (fun y hy=>h y (List.mem_cons_of_mem _ hy))⟩
theorem shw_setTx (x:Inl) (t:ByteArray) (h:x.sh):(x.setTx t).sh:=by
 obtain ⟨k,t0,d,ti,a,ar,ci,ks⟩:=x
 rw [Inl.sh] at h
 show Inl.sh (.mk k t d ti a ar ci ks)
 rw [Inl.sh];exact h
theorem shw_addK (q:Int) (out:List Inl) (x:Inl) (ho:Inl.shL out) (hx:x.sh):Inl.shL (addK q out x):=by
 unfold addK
 split
 ·split
  ·rename_i y hg
   split
   ·refine shw_app _ _ (shw_of _ fun z hz=>shw_mem out ho z (List.dropLast_subset _ hz)) (shw_one (shw_setTx y _ ?_))
    exact shw_mem out ho y (by rw [q1s hg];simp)
   ·exact shw_app _ _ ho (shw_one hx)
  ·exact shw_app _ _ ho (shw_one hx)
 ·exact shw_app _ _ ho (shw_one hx)
theorem shw_addM (out:List Inl) (x:Inl) (ho:Inl.shL out) (hx:x.sh):Inl.shL (addM out x):=by
 rw [addM_addK]
 split
 ·exact shw_addK 1 out x ho hx
 ·exact ho
theorem shw_foldK (q:Int):∀ (l out:List Inl),Inl.shL out->Inl.shL l->Inl.shL (l.foldl (addK q) out)
 | [],out,ho,_=>ho
 | x::l,out,ho,h=>by
  rw [Inl.shL] at h
  rw [List.foldl_cons]
  exact shw_foldK q l _ (shw_addK q out x ho h.1) h.2
mutual
theorem Inl.shw_mergeX:∀ (x:Inl),x.sh->x.mergeX.sh
 | .mk k t d ti a ar ci ks,h=>by
  rw [Inl.sh] at h
  rw [Inl.mergeX,Inl.sh]
  exact ⟨h.1,Inl.shw_mergeA ks [] shw_nil h.2⟩
theorem Inl.shw_mergeA:∀ (l out:List Inl),Inl.shL out->Inl.shL l->Inl.shL (Inl.mergeA out l)
 | [],out,ho,_=>by rw [Inl.mergeA];exact ho
 | x::l,out,ho,h=>by
  rw [Inl.shL] at h
  rw [Inl.mergeA]
  exact Inl.shw_mergeA l _ (shw_addM out _ ho (Inl.shw_mergeX x h.1)) h.2
end
theorem shw_join (l:List Inl) (h:Inl.shL l):Inl.shL (q1k 4 (Inl.mergeL l)):=shw_foldK 4 _ [] shw_nil (Inl.shw_mergeA l [] shw_nil h)
theorem at0_short:at0.short:=by unfold At.short at0;exact ⟨by simp,by simp,Nat.zero_le _,by simp,by simp⟩
theorem shw_tx (t:ByteArray):(txI t).sh:=by
 unfold txI
 rw [Inl.sh]
 exact ⟨⟨Nat.zero_le _,Nat.zero_le _,at0_short,by simp,by simp⟩,shw_nil⟩
mutual
theorem Inl.ent_sh:∀ (x:Inl),x.sh->Inl.shL x.entX
 | .mk k t d ti a ar ci ks,h=>by
  rw [Inl.sh] at h
  obtain ⟨h1',h5'⟩:=h
  have hk:Inl.shL (entL ks):=shw_join _ (Inl.entR_sh ks h5')
  rw [entX_eq]
  by_cases h1:k=9\/k=11
  ·rw [if_pos h1];exact hk
  rw [if_neg h1]
  by_cases h2:k=12\/k=14\/k=13
  ·rw [if_pos h2];exact shw_nil
  rw [if_neg h2]
  by_cases h3:k=16
  ·rw [if_pos h3];exact shw_one (shw_tx _)
  rw [if_neg h3]
  by_cases h4:k=2\/k=3
  ·rw [if_pos h4];exact shw_one (shw_tx _)
  rw [if_neg h4]
  by_cases h5:k=10
  ·rw [if_pos h5]
   refine shw_one ?_
   rw [Inl.sh]
   exact ⟨⟨h1'.1,h1'.2.1,at0_short,h1'.2.2.2⟩,hk⟩
  rw [if_neg h5]
  by_cases h6:k=6\/k=7\/k=8
  ·rw [if_pos h6]
   split
   ·exact shw_nil
   ·refine shw_one ?_
    rw [Inl.sh];exact ⟨h1',hk⟩
  ·rw [if_neg h6]
   refine shw_one ?_
   rw [Inl.sh];exact ⟨h1',h5'⟩
theorem Inl.entR_sh:∀ (l:List Inl),Inl.shL l->Inl.shL (Inl.entR l)
 | [],_=>by rw [Inl.entR];exact shw_nil
 | x::l,h=>by
  rw [Inl.shL] at h
  rw [Inl.entR]
  exact shw_app _ _ (Inl.ent_sh x h.1) (Inl.entR_sh l h.2)
end
theorem entL_sh (l:List Inl) (h:Inl.shL l):Inl.shL (entL l):=shw_join _ (Inl.entR_sh l h)
mutual
theorem Inl.shw_small:∀ (x:Inl),x.small->x.sh
 | .mk k t d ti a ar ci ks,h=>by
  rw [Inl.small] at h
  obtain ⟨h1,h2,h3,h4,h5,h6,h7,h8,h9⟩:=h
  rw [Inl.sh]
  exact ⟨⟨by omega,by omega,h4,h7,h8⟩,Inl.shL_small ks h9⟩
theorem Inl.shL_small:∀ (l:List Inl),Inl.smallL l->Inl.shL l
 | [],_=>shw_nil
 | x::l,h=>by
  rw [Inl.smallL] at h
  rw [Inl.shL]
  exact ⟨Inl.shw_small x h.1,Inl.shL_small l h.2⟩
end
mutual
theorem Inl.mid_sh:∀ (x:Inl),x.sh->x.txB->x.mid
 | .mk k t d ti a ar ci ks,h,ht=>by
  rw [Inl.sh] at h
  rw [Inl.txB] at ht
  rw [Inl.mid]
  obtain ⟨⟨h1,h2,h3,h4,h5⟩,h6⟩:=h
  exact ⟨by omega,by omega,by omega,h3,h4,h5,Inl.midL_sh ks h6 ht.2⟩
theorem Inl.midL_sh:∀ (l:List Inl),Inl.shL l->Inl.txBL l->Inl.midL l
 | [],_,_=>by rw [Inl.midL];trivial
 | x::l,h,ht=>by
  rw [Inl.shL] at h
  rw [Inl.txBL] at ht
  rw [Inl.midL]
  exact ⟨Inl.mid_sh x h.1 ht.1,Inl.midL_sh l h.2 ht.2⟩
end
structure EnMi (e:En):Prop where
 id:e.id.size<=1000
 sh:Inl.shL e.line
 mz:Inl.mzL (q0z e)<=100000
theorem shown_mid (e:En) (h:EnMi e):Inl.midL [q21 e]:=by
 have h0:Inl.shL (q0z e):=by
  unfold q0z
  refine shw_app _ _ ?_ h.sh
  split
  ·exact shw_nil
  ·exact shw_one (shw_tx _)
 have h1:=Inl.shw_mergeA (q0z e) [] shw_nil h0
 have h2:=Inl.mergeA_mz (q0z e) []
 have h3:Inl.mzL ([]:List Inl)=0:=mzL_nil
 have h4:=Inl.txBL_mz (Inl.mergeA [] (q0z e)) (by have:=h.mz;omega)
 rw [Inl.midL]
 refine ⟨?_,by rw [Inl.midL];trivial⟩
 unfold q21
 rw [Inl.mid]
 refine ⟨Nat.zero_le _,?_,Nat.zero_le _,at0_short,by simp,by simp,Inl.midL_sh _ h1 h4⟩
 rw [ByteArray.size_append]
 have:hashB.size=1:=rfl
 have:=h.id
 omega
theorem bul_mid (items:List Blk) (h:Blk.midL items):Blk.midL (bulB items):=by
 unfold bulB
 split
 ·rw [Blk.midL];trivial
 ·rw [Blk.midL,Blk.mid,Blk.midL,Inl.midL]
  exact ⟨⟨Nat.zero_le _,Nat.zero_le _,Nat.zero_le _,Nat.zero_le _,at0_short,trivial,h⟩,trivial⟩
theorem items_mid (n:Nat):∀ (l:List En),l.length<=n->(∀ e∈l,EnMi e)->Blk.midL (q1r l):=by
 induction n with
 | zero=>
  intro l hl _
  rw [List.eq_nil_of_length_eq_zero (Nat.le_zero.1 hl),q0f,Blk.midL];trivial
 | succ n ih=>
  intro l hl h
  cases l with
  | nil=>rw [q0f,Blk.midL];trivial
  | cons e l=>
   rw [List.length_cons] at hl
   have h1:=q26 e.over l
   have h2:=q2e e.over l
   have ht:=ih _ (Nat.le_trans h1 (by omega)) (fun y hy=>h y (List.mem_cons_of_mem _ (tw_sub hy)))
   have hd:=ih _ (Nat.le_trans h2 (by omega)) (fun y hy=>h y (List.mem_cons_of_mem _ (dw_sub hy)))
   rw [q14,Blk.midL]
   refine ⟨?_,hd⟩
   unfold itemB
   rw [Blk.mid,Inl.midL,Blk.midL]
   refine ⟨Nat.zero_le _,Nat.zero_le _,Nat.zero_le _,Nat.zero_le _,at0_short,trivial,?_,bul_mid _ ht⟩
   unfold paraB
   rw [Blk.mid,Blk.midL]
   exact ⟨Nat.zero_le _,Nat.zero_le _,Nat.zero_le _,Nat.zero_le _,at0_short,shown_mid e (h e (List.mem_cons_self ..)),trivial⟩
theorem list_mid (l:List En) (h:∀ e∈l,EnMi e):Blk.midL (q1v l):=bul_mid _ (items_mid l.length l (Nat.le_refl _) h)
theorem toc_mi (l:List Blk) (h:Blk.smallL l) (ha:Blk.allL l<=120) (h0:NsB ns0 0 0) (dep:Int):∀ x∈tocL (q25 l) dep,EnMi x:=by
 intro x hx
 have hmd:=toc_md l h ha h0 dep x hx
 obtain ⟨n,hn,hk,hid,hval,hln,-,-,-⟩:=tocL_from _ _ _ hx
 have h3:=nums_ok (fun li=>Inl.smallL li/\Inl.szL li<=120) ⟨by simp [Inl.smallL],by simp [Inl.szL]⟩ l (line_md l h) n hn
 have h5:=Inl.mzL_small n.line h3.2.1
 have h6:=h3.2.2
 refine ⟨hmd.id,by rw [hln];exact entL_sh _ (Inl.shL_small _ h3.2.1),?_⟩
 have h7:Inl.mzL x.line<=80000:=by rw [hln];exact Nat.le_trans (entL_mz _) (by omega)
 unfold q0z
 rw [mzL_app]
 split
 ·rw [mzL_nil];omega
 ·rw [mzL_one]
  have h8:(txI (x.tx++⟨#[32]⟩)).mz=(x.tx++⟨#[32]⟩).size:=by unfold txI;rw [Inl.mz,mzL_nil];rfl
  rw [h8,ByteArray.size_append]
  have:=hmd.tx
  have:(⟨#[32]⟩:ByteArray).size=1:=rfl
  omega
theorem bul_mth (items:List Blk) (h:Blk.mthL items=false):Blk.mthL (bulB items)=false:=by
 unfold bulB
 split
 ·rw [Blk.mthL]
 ·rw [Blk.mthL,Blk.mth,Blk.mthL,h];rfl
theorem items_mth (n:Nat):∀ (l:List En),l.length<=n->Blk.mthL (q1r l)=false:=by
 induction n with
 | zero=>
  intro l hl
  rw [List.eq_nil_of_length_eq_zero (Nat.le_zero.1 hl),q0f,Blk.mthL]
 | succ n ih=>
  intro l hl
  cases l with
  | nil=>rw [q0f,Blk.mthL]
  | cons e l=>
   rw [List.length_cons] at hl
   have h1:=q26 e.over l
   have h2:=q2e e.over l
   have ht:=ih _ (Nat.le_trans h1 (by omega))
   have hd:=ih _ (Nat.le_trans h2 (by omega))
   rw [q14,Blk.mthL,hd,Bool.or_false]
   unfold itemB
   rw [Blk.mth,Blk.mthL]
   unfold paraB q1v
   rw [Blk.mth,bul_mth _ ht,show Blk.mthL ([]:List Blk)=false by rw [Blk.mthL]];rfl
theorem list_mth (l:List En):Blk.mthL (q1v l)=false:=bul_mth _ (items_mth l.length l (Nat.le_refl _))
open Go.RowKit
theorem hdg_snoc (id:ByteArray):∀ (l:List Blk) (k:Nat) (x:Blk),l[k]?=some x->Blk.hdgL id (l.take (k+1))=(Blk.hdgL id (l.take k)||x.hdg id)
 | [],_,_,h=>by simp at h
 | y::l,0,x,h=>by
  simp at h;subst h
  simp [Blk.hdgL]
 | y::l,k+1,x,h=>by
  rw [List.take_succ_cons,List.take_succ_cons,Blk.hdgL,Blk.hdgL,hdg_snoc id l k x (by simpa using h),Bool.or_assoc]
theorem hdg_more (id:ByteArray):∀ (l:List Blk) (k:Nat),Blk.hdgL id (l.take k)=true->Blk.hdgL id l=true
 | [],k,h=>by simpa using h
 | y::l,0,h=>by rw [List.take_zero,Blk.hdgL] at h;cases h
 | y::l,k+1,h=>by
  rw [List.take_succ_cons,Blk.hdgL,Bool.or_eq_true] at h
  rw [Blk.hdgL,Bool.or_eq_true]
  exact h.imp _root_.id (hdg_more id l k)
def HgRel (id:ByteArray) (w:World) (l:List Blk) (vi:Value) (wr:World):Prop:=∃ k:Nat,k<=l.length/\vi=.int .i64 k/\Blk.hdgL id (l.take k)=false/\Below w.heap.size w wr
def HgPost (w:World) (b:Bool) (e:Ending) (w':World):Prop:=e=.returned (.bool b)/\Below w.heap.size w w'
theorem heading_any (id:ByteArray) (n:Nat):∀ (l:List Blk) (v:Value) (w:World),Blk.szL l<=n->Rd (·<w.heap.size) w (q0x l) [v] ->
  Calls Tryz.prog 21 #[v,.string id] w (HgPost w (Blk.hdgL id l)):=by
 induction n using Nat.strongRecOn with
 | _ n ih=>
  intro l v w hn hrd
  obtain ⟨a,cap,hv,hs⟩:=Rd.sl_open hrd
  obtain rfl:v=.slice a l.length cap:=by simpa using hv
  have hcap:l.length<=cap:=by simpa using hs.le
  have hmx:=hs.max
  unfold maxLen at hmx
  have HS:=Lib.hid hs
  have IH:=Lib.hid ih
  have R0:Hid (HgRel id w l (.int .i64 0) w):=⟨0,Nat.zero_le _,rfl,by rw [List.take_zero,Blk.hdgL],Below.refl _ _⟩
  obtain ⟨V,hV⟩:∃ V,V=Blk.hdgL id l:=⟨_,rfl⟩
  have HV:=Lib.hid hV
  rw [<- hV]
  clear hs hv hrd ih hV
  go_enter Tryz.func21,Tryz.ntmps21
  go_wp2
  go_loopw [5] (fun vi wr=>HgRel id w l vi wr) (fun i _=>l.length-(intOf i).toNat)
  case atStart=>exact R0.out
  case round=>
   clear R0
   obtain ⟨k,hk,rfl,hno,hbel⟩:=hrel
   have HBEL:=Lib.hid hbel
   have HNO:=Lib.hid hno
   have hwz:=hbel.size
   clear hno
   by_cases hlt:k<l.length
   ·obtain ⟨x,hx⟩:∃ x,l[k]?=some x:=⟨_,List.getElem?_eq_getElem hlt⟩
    have hsn:=hdg_snoc id l k x hx
    rw [HNO.out,Bool.false_or] at hsn
    have hmo:=hdg_more id l (k+1)
    have hsz:=Blk.szL_get l k x hx
    obtain ⟨kd,lv,i,t,d,ti,at_,li,ks⟩:=x
    rw [Blk.sz] at hsz
    rw [Blk.hdg] at hsn
    obtain ⟨g,off,vc,vp,vl,vk,rfl,hgo,hgl,hc,hR⟩:=q1w (HS.out.up0 hbel) hx
    obtain ⟨c0,c1,c2,c3,c4,c5,c6,c7,c8,c9,c10⟩:=hc
    obtain ⟨ak,nk,ck,rfl⟩:=Rd.sl_form hR.kids
    have hkr:Rd (·<wr.heap.size) wr (q0x ks) [.slice ak nk ck]:=hR.kids.weaken (fun b hb=>by have hb':b<w.heap.size:=hb;omega)
    have IK:=Lib.hid (IH.out (Blk.szL ks) (by omega) ks (.slice ak nk ck) wr (Nat.le_refl _) hkr)
    have hi0:(0:Int)<=(k:Int):=by omega
    have hi1:(k:Int)<(l.length:Int):=by omega
    clear hx hgo hR hsz hbel hkr
    by_cases h1:kd=2/\at_.id=id
    ·have HT:Hid (V=true):=by
      show _=_
      rw [HV.out]
      refine hmo ?_
      rw [hsn,decide_eq_true h1.1,decide_eq_true h1.2];rfl
     obtain ⟨rfl,h2⟩:=h1
     have q1:(at_.id.toList==id.toList)=true:=by rw [h2];simp
     clear hsn hmo h2
     go_wp2
     go_ret
     exact ⟨by rw [HT.out];rfl,HBEL.out⟩
    ·have HSN:Hid (Blk.hdgL id (l.take (k+1))=Blk.hdgL id ks):=by
      show _=_
      rw [hsn]
      have:(decide (kd=2)&&decide (at_.id=id))=false:=by
       rw [<- Bool.not_eq_true,Bool.and_eq_true,decide_eq_true_eq,decide_eq_true_eq];exact h1
      rw [this,Bool.false_or]
     have HMO:=Lib.hid hmo
     clear hsn hmo
     generalize Blk.hdgL id ks=b at *
     by_cases h2:kd=2
     ·subst h2
      have q1:(at_.id.toList==id.toList)=false:=by
       rw [beq_eq_false_iff_ne]
       intro e
       exact h1 ⟨rfl,ByteArray.ext (Array.toList_inj.1 (by rw [<- Lib.toList_data,<- Lib.toList_data];exact e))⟩
      clear h1
      go_wp2_with fail
      (with_reducible refine IK.out.mono ?_)
      rintro e w1 ⟨rfl,b1⟩
      have B1:=Lib.hid (q01 HBEL.out b1)
      clear b1 IK
      cases b with
      | true=>
       have HT:Hid (V=true):=by show _=_;rw [HV.out];exact HMO.out HSN.out
       go_wp2
       go_ret
       exact ⟨by rw [HT.out];rfl,B1.out⟩
      | false=>
       go_wp2
       go_roundw
       case rel=>exact ⟨k+1,by omega,by go_num,HSN.out,B1.out⟩
       case measure=>simp [intOf];omega
     ·have q0:(kd==2)=false:=by rw [beq_eq_false_iff_ne];exact h2
      clear h1 h2
      go_wp2_with fail
      (with_reducible refine IK.out.mono ?_)
      rintro e w1 ⟨rfl,b1⟩
      have B1:=Lib.hid (q01 HBEL.out b1)
      clear b1 IK
      cases b with
      | true=>
       have HT:Hid (V=true):=by show _=_;rw [HV.out];exact HMO.out HSN.out
       go_wp2
       go_ret
       exact ⟨by rw [HT.out];rfl,B1.out⟩
      | false=>
       go_wp2
       go_roundw
       case rel=>exact ⟨k+1,by omega,by go_num,HSN.out,B1.out⟩
       case measure=>simp [intOf];omega
   ·have hkl:k=l.length:=by omega
    subst hkl
    rw [List.take_length] at HNO
    have HF:Hid (V=false):=by show _=_;rw [HV.out,HNO.out]
    clear hbel
    go_wp2
    go_ret
    exact ⟨by rw [HF.out];rfl,HBEL.out⟩
open Go.RowKit
theorem Rd.anyLtD {ok:Nat->Prop} {w:World} {k:Nat} {l:List D} {v:Value} (h:Rd ok w (.sl k l) [v]):Rd (·<w.heap.size) w (.sl k l) [v]:=Rd.keep (fun b _ h2=>⟨h2,rfl⟩) _ _ h
theorem ns0_bD:NsB ns0 0 0:=⟨fun i=>by
  show (List.replicate 6 0).getD i 0<=0
  rw [List.getD_eq_getElem?_getD,List.getElem?_replicate]
  split<;>simp,Nat.le_refl _,Nat.le_refl _,Nat.le_refl _,Nat.le_refl _,Nat.le_refl _⟩
def LdRel (w6:World) (n:Nat) (vi:Value) (wr:World):Prop:=∃ i:Nat,i<=n/\vi=.int .i64 i/\Below w6.heap.size w6 wr
structure LinkS (dd id:ByteArray):Prop where
 len:1<dd.size
 hd:∀ h:0<dd.size,dd[0]'h=35
 ex:dd.extract 1 dd.size=id
theorem link_s (id:ByteArray) (h:q06 id=false):LinkS (hashB++id) id:=by
 have h0:0<id.size:=by
  rw [<- len_size]
  rcases Nat.eq_zero_or_pos id.data.toList.length with h1 | h1
  ·unfold q06 at h
   rw [decide_eq_false_iff_not] at h
   exact absurd (List.eq_nil_of_length_eq_zero h1) h
  ·exact h1
 have hs:(hashB++id).size=1+id.size:=by rw [ByteArray.size_append];rfl
 refine ⟨by omega,fun h=>?_,?_⟩
 ·rfl
 ·apply ByteArray.ext
  rw [ByteArray.data_extract,hs,ByteArray.data_append]
  have e:hashB.data=#[35]:=rfl
  rw [e]
  apply Array.toList_inj.1
  rw [Array.toList_extract,Array.toList_append]
  have h2:id.data.toList.length=id.size:=len_size id
  simp [List.extract,h2]
  rw [<- h2,List.take_length]
structure LdOk (me:List Pr) (l:List Blk):Prop where
 sm:Blk.smallL l
 al:Blk.allL l<=120
 me_:me.length<=1000000
 kd:∀ b∈Blk.eachL l,Inl.kdwL b.lineOf
 err:Blk.errL q0i 0 0 l=0
theorem LdOk.ents {me:List Pr} {l:List Blk} (h:LdOk me l) (a:At):∀ e∈tocL (q25 (bareL l)) (q1o a),EnMd e:=
 toc_md (bareL l) (Blk.bareL_small l h.sm) (Nat.le_trans (Blk.bareL_all l) h.al) ns0_bD (q1o a)
theorem LdOk.cnt {me:List Pr} {l:List Blk} (h:LdOk me l) (a:At):(tocL (q25 (bareL l)) (q1o a)).length<=240:=by
 have h1:=nums_len (bareL l)
 have h2:=Blk.allL_sz (bareL l)
 have h3:=Blk.bareL_all l
 have h4:=h.al
 have h5:(Blk.inlsL (bareL l)).length<=Blk.allL (bareL l)/\Blk.szL (bareL l)<=Blk.allL (bareL l):=by
  constructor<;>omega
 have h6:Blk.allL (bareL l)<=Blk.allL l:=h3
 unfold tocL
 rw [List.length_map]
 exact Nat.le_trans (List.length_filter_le _ _) (by omega)
theorem LdOk.fsz {me:List Pr} {l:List Blk} (h:LdOk me l):Blk.szL (fillL l)<=200000:=by
 have h1:=Blk.wkL_sz (fillK l) 721 (fun a=>by
  rw [fillK_eq]
  have:=list_sz (tocL (q25 (bareL l)) (q1o a))
  have:=h.cnt a
  omega) l
 have h2:=Blk.allL_sz l
 have h3:=h.al
 have h4:Blk.szL l<=120:=by omega
 have h5:Blk.szL l*(1+721)<=120*722:=Nat.mul_le_mul h4 (by omega)
 have h6:Blk.szL (fillL l)<=Blk.szL l*(1+721):=h1
 omega
theorem LdOk.fbd {me:List Pr} {l:List Blk} (h:LdOk me l):Blk.bdL (fillL l):=
 Blk.wkL_bd (fillK l) (fun a=>by rw [fillK_eq];exact list_bd _ (h.ents a)) l (Blk.bdL_sm l h.sm)
theorem LdOk.dw {me:List Pr} {l:List Blk} (h:LdOk me l):DocW (bareL l):=bare_docW l h.sm h.al h.kd
theorem LdOk.es {me:List Pr} {l:List Blk} (h:LdOk me l):EnsOk (allE l):=fill_ens l h.sm h.al ns0_bD
theorem LdOk.fes {me:List Pr} {l:List Blk} (h:LdOk me l):EnsOk (allE (fillL l)):=by
 have e:allE (fillL l)=allE l:=by unfold allE;rw [bare_fill]
 rw [e];exact h.es
theorem LdOk.toc {me:List Pr} {l:List Blk} (h:LdOk me l) (b:Blk) (hb:b∈Blk.eachL (fillL l)) (h1:b.kindOf=13) (h2:b.infoOf=tocS):b.kidsOf=q1v (tocL (q25 (bareL l)) (q1o b.atOf)):=by
 rw [<- fillK_eq]
 exact Blk.wkL_toc (fillK l) (fun a=>by rw [fillK_eq];exact list_each _) l b hb h1 h2
theorem leads_walk (me:List Pr) (l:List Blk) (vm vb:Value) (w:World) (hm:Rd (·<w.heap.size) w (prsD me) [vm]) (hb:Rd (·<w.heap.size) w (q0x l) [vb]) (hwm:∀ p∈me,p.wf) (hwl:Blk.wfL l) (hT:PT w) :
  Calls Tryz.prog 6 #[.agg #[vm,vb]] w fun e w'=>e=.returned (.bool true)/\Below w.heap.size w w':=by
 obtain ⟨am,cm,hvm,hsm⟩:=Rd.sl_open hm
 obtain rfl:vm=.slice am me.length cm:=by simpa using hvm
 obtain ⟨ab,nb,cb,rfl⟩:=Rd.slf hb
 obtain ⟨w0,hw0⟩:∃ w0,w0=w.alloc (.cells #[.slice am me.length cm,.slice ab nb cb] 25):=⟨_,rfl⟩
 have b0:Below w.heap.size w w0:=by rw [hw0];exact (Below.refl _ _).alloc (Nat.le_refl _) _
 have k0:CB 25 w.heap.size [.slice am me.length cm,.slice ab nb cb] w0:=by rw [hw0];exact CB.new _ _ _
 have SM:=Lib.hid (small_any me l _ _ w0 (hm.up b0) (hb.up b0) hwm hwl)
 have B0:=Lib.hid b0
 have K0:=Lib.hid k0
 have HM:=Lib.hid (hm.up b0)
 have HB:=Lib.hid (hb.up b0)
 have HT:=Lib.hid (hT.below b0)
 have HW:=Lib.hid hwl
 have x0:=k0.cell 0 _ rfl
 have x1:=k0.cell 1 _ rfl
 clear hm hb hwm hwl hT hvm hsm b0 k0
 go_enter Tryz.func6,Tryz.ntmps6
 go_upto_region 1 with (fail)
 rw [<- hw0]
 clear hw0
 go_wp2_with fail
 refine SM.out.mono ?_
 rintro e w1 ⟨b,rfl,hsm,b1⟩
 have HB1:=Lib.hid b1
 cases b with
 | false=>
  clear hsm b1
  go_wp2_with fail
  refine (awake_any _ (HT.out.below HB1.out)).mono ?_
  rintro e w2 ⟨rfl,b2⟩
  have HZ:=Lib.hid (q01 (q01 B0.out HB1.out) b2)
  clear b2
  go_wp2
  go_ret
  exact ⟨rfl,HZ.out⟩
 | true=>
  have hds:=hsm rfl
  have K1:=Lib.hid (K0.out.below b1)
  have x0:=K1.out.cell 0 _ rfl
  have x1:=K1.out.cell 1 _ rfl
  have CK:=Lib.hid (rCheck_any me l am ab cm nb cb w1 (by have:=hds.meta_;omega) (fun p hp=>by have:=hds.mets p hp;omega) (by have:=hds.all;omega) hds.blks (HM.out.up b1) (HB.out.up b1))
  have HM1:=Lib.hid (HM.out.up b1)
  have HB1R:=Lib.hid (HB.out.up b1)
  have HT1:=Lib.hid (HT.out.below b1)
  have HBB:=Lib.hid (q01 B0.out b1)
  have HLO:Hid (Blk.errL q0i 0 0 l=0->LdOk me l):=fun he=>⟨hds.blks,hds.all,by have:=hds.meta_;omega,Blk.eachL_kdw l HW.out,he⟩
  clear hsm hds b1 SM HM HB HT HW K0 B0 HB1
  go_wp2_with fail
  refine CK.out.mono ?_
  rintro e w2 ⟨rfl,b2⟩
  have K2:=Lib.hid (K1.out.below b2)
  have x0:=K2.out.cell 0 _ rfl
  have x1:=K2.out.cell 1 _ rfl
  have HM2:=Lib.hid (HM1.out.up b2)
  have HB2:=Lib.hid (HB1R.out.up b2)
  have HT2:=Lib.hid (HT1.out.below b2)
  have HBB2:=Lib.hid (q01 HBB.out b2)
  clear b2 CK K1 HM1 HB1R HT1 HBB
  by_cases hE:docErr q0i me l=0
  case neg=>
   obtain ⟨dE,hdE⟩:∃ dE,dE=docErr q0i me l:=⟨_,rfl⟩
   rw [<- hdE] at hE ⊢
   have q9:((dE:Int) != 0)=true:=by simp;omega
   have AW:=Lib.hid (awake_any _ HT2.out)
   clear hE hdE
   go_wp2_with fail
   refine AW.out.mono ?_
   rintro e w3 ⟨rfl,b3⟩
   have HZ:=Lib.hid (q01 HBB2.out b3)
   clear b3
   go_wp2
   go_ret
   exact ⟨rfl,HZ.out⟩
  case pos=>
   have hLD:LdOk me l:=HLO.out (by
    unfold docErr at hE
    split at hE
    ·cases hE
    ·split at hE
     ·rename_i h9;exact absurd hE h9
     ·exact hE)
   have LD:=Lib.hid hLD
   have FL1:=Lib.hid (fill_any me l (.slice am me.length cm) (.slice ab nb cb) w2 HM2.out HB2.out hLD.dw hLD.es (Blk.bdL_sm l hLD.sm) (by have:=Blk.allL_sz l;have:=hLD.al;omega) hLD.me_ HT2.out)
   obtain ⟨F,hF⟩:∃ F,F=fillL l:=⟨_,rfl⟩
   rw [<- hF] at FL1
   have HF:=Lib.hid hF
   rw [hE]
   clear hE hLD hF HLO
   go_wp2_with fail
   (with_reducible refine FL1.out.mono ?_)
   rintro e w3 ⟨vm3,vb3,rfl,hm3,hb3,b3⟩
   obtain ⟨am3,nm3,cm3,rfl⟩:=Rd.slf hm3
   obtain ⟨ab3,nb3,cb3,rfl⟩:=Rd.slf hb3
   obtain ⟨P,hP⟩:∃ P,P=w3.heap.size:=⟨_,rfl⟩
   obtain ⟨w4,hw4⟩:∃ w4,w4=w3.alloc (.cells #[.slice am3 nm3 cm3,.slice ab3 nb3 cb3] 25):=⟨_,rfl⟩
   have b34:Below w3.heap.size w3 w4:=by rw [hw4];exact (Below.refl _ _).alloc (Nat.le_refl _) _
   have b4d:Below w3.heap.size w3 w4.drew:=b34.drew
   have KP:CB 25 P [.slice am3 nm3 cm3,.slice ab3 nb3 cb3] w4.drew:=by rw [hw4,hP];exact CB.new _ _ w3
   have HM4:=Lib.hid ((show Rd (·<w3.heap.size) w3 (prsD me) [.slice am3 nm3 cm3] from hm3.anyLtD).up b4d)
   have HB4:=Lib.hid ((show Rd (·<w3.heap.size) w3 (q0x F) [.slice ab3 nb3 cb3] from hb3.anyLtD).up b4d)
   have HT4:=Lib.hid (HT2.out.below (q01 b3 b4d))
   have HBB4:=Lib.hid (q01 HBB2.out (q01 b3 b4d))
   have hP4:=KP.lt
   have FL2:Hid (Calls Tryz.prog 13 #[.agg #[.slice am3 nm3 cm3,.slice ab3 nb3 cb3]] w4.drew (FillPost w4.drew me F)):=by
    have h1:=LD.out
    have h2:=fill_any me (fillL l) (.slice am3 nm3 cm3) (.slice ab3 nb3 cb3) w4.drew HM4.out (by rw [<- HF.out];exact HB4.out) (by rw [bare_fill];exact h1.dw) h1.fes h1.fbd (Nat.le_trans h1.fsz (by decide)) h1.me_ HT4.out
    rw [fill_fill,<- HF.out] at h2
    exact h2
   have S0:w4.drew.cell? ⟨P,0,none⟩=some (.slice am3 nm3 cm3)/\w4.drew.cell? ⟨P,1,none⟩=some (.slice ab3 nb3 cb3):=⟨KP.cell 0 _ rfl,KP.cell 1 _ rfl⟩
   have HKP:=Lib.hid KP
   have HW4:=Lib.hid hw4
   have HP:=Lib.hid hP
   clear hm3 hb3 b3 b34 b4d KP FL1 K2 HM2 HB2 HT2 HBB2 x0 x1 hw4 hP
   go_upto_region 4 with (fail)
   rw [<- HW4.out,<- HP.out]
   clear HW4 HP
   go_cut [24] (fun v wx=>v=.bool false/\Below w4.drew.heap.size w4.drew wx)
   case first=>
    go_wp2_with fail
    go_region_held3 (fun w'=>w'.cell? ⟨P,0,none⟩=some (.slice am3 nm3 cm3)/\w'.cell? ⟨P,1,none⟩=some (.slice ab3 nb3 cb3))
     (first | exact S0 | assumption | exact S5 | exact S6)
     (first
      | (go_simp;go_at_call 13;(with_reducible refine FL2.out.mono ?_);rintro e w5 ⟨vm5,vb5,rfl,hm5,hb5,b5⟩;have S5:w5.cell? ⟨P,0,none⟩=some (.slice am3 nm3 cm3)/\w5.cell? ⟨P,1,none⟩=some (.slice ab3 nb3 cb3):=⟨(b5.cell (p:=⟨P,0,none⟩) hP4).trans S0.1,(b5.cell (p:=⟨P,1,none⟩) hP4).trans S0.2⟩;have hP5:P<w5.heap.size:=Nat.lt_of_lt_of_le hP4 b5.size;have EQ:=Lib.hid (same_eq me F vm5 vb5 (.slice am3 nm3 cm3) (.slice ab3 nb3 cb3) w5 hm5.anyLtD (HM4.out.up b5) hb5.anyLtD (HB4.out.up b5));have B5:=Lib.hid b5;clear b5 hm5 hb5 FL2)
      | (go_simp;go_at_call 12;(with_reducible refine EQ.out.mono ?_);rintro e w6 ⟨rfl,b6⟩;have S6:w6.cell? ⟨P,0,none⟩=some (.slice am3 nm3 cm3)/\w6.cell? ⟨P,1,none⟩=some (.slice ab3 nb3 cb3):=⟨(b6.cell (p:=⟨P,0,none⟩) hP5).trans S5.1,(b6.cell (p:=⟨P,1,none⟩) hP5).trans S5.2⟩;have B6:=Lib.hid (q01 B5.out b6);clear b6 EQ))
    all_goals
     go_wp2_with fail
     go_meet
     exact ⟨rfl,B6.out⟩
   case rest=>
    obtain ⟨rfl,bw⟩:=hcut
    obtain ⟨w5,hw5⟩:∃ w5:World,w5=wc:=⟨_,rfl⟩
    subst hw5
    have K5:=Lib.hid (HKP.out.below bw)
    have y1:=K5.out.cell 1 _ rfl
    have HB5:=Lib.hid (HB4.out.up bw)
    have HT5:=Lib.hid (HT4.out.below bw)
    have HBB5:=Lib.hid (q01 HBB4.out bw)
    have hFs:Blk.szL F<=1000000:=by rw [HF.out];exact Nat.le_trans LD.out.fsz (by decide)
    have LS:=Lib.hid (list_any 1000000 F w5.heap.size (.slice ab3 nb3 cb3) w5 hFs (Nat.le_refl _) HB5.out (Nat.le_refl _))
    clear bw S0 HM4 HB4 HT4 HBB4 HKP FL2 hP4
    go_wp2_with fail
    (with_reducible refine LS.out.mono ?_)
    rintro e w6 ⟨v6,rows,rfl,hrow⟩
    obtain ⟨L,hL⟩:∃ L,L=Blk.eachL F:=⟨_,rfl⟩
    rw [<- hL] at hrow
    obtain ⟨nL,hnL⟩:∃ nL,nL=L.length:=⟨_,rfl⟩
    obtain ⟨a6,c6,hv6⟩:=q09 hrow.own
    rw [List.length_map,<- hnL] at hv6
    subst hv6
    have hcp6:=own_cap' hrow.own
    rw [List.length_map,<- hnL] at hcp6
    obtain ⟨hcp,hcm⟩:=hcp6
    unfold maxLen at hcm
    have HROW:=Lib.hid hrow
    have HNL:=Lib.hid hnL
    have HL:=Lib.hid hL
    have K6:=Lib.hid (K5.out.below hrow.bel)
    have HB6:=Lib.hid (HB5.out.up hrow.bel)
    have HT6:=Lib.hid (HT5.out.below hrow.bel)
    have HBB6:=Lib.hid (q01 HBB5.out hrow.bel)
    have hw56:=hrow.bel.size
    have R0:Hid (LdRel w6 nL (.int .i64 0) w6):=⟨0,Nat.zero_le _,rfl,Below.refl _ _⟩
    clear hrow hnL hL LS y1 K5 HB5 HT5 HBB5
    go_wp2
    go_loopw [5] (fun vi wr=>LdRel w6 nL vi wr) (fun i _=>nL-(intOf i).toNat)
    case atStart=>exact R0.out
    case round=>
     clear R0
     obtain ⟨i,hi,rfl,hbel⟩:=hrel
     have HBEL:=Lib.hid hbel
     have hwz:=hbel.size
     by_cases hlt:i<nL
     ·obtain ⟨x,hx⟩:∃ x,L[i]?=some x:=⟨_,List.getElem?_eq_getElem (by rw [<- HNL.out];exact hlt)⟩
      have hxm:x∈Blk.eachL (fillL l):=by rw [<- HF.out,<- HL.out];exact List.mem_of_getElem? hx
      have htoc:=LD.out.toc x hxm
      obtain ⟨r,hr,hd⟩:=HROW.out.red.get i _ (by rw [List.getElem?_map,hx];rfl)
      obtain ⟨kd,lv,i1,t,d,ti,at_,li,ks⟩:=x
      obtain ⟨vc,vp,vl,vk,rfl,hR⟩:=Blk.open_ hd
      obtain ⟨ak,ck,hvk,-⟩:=Rd.sl_open hR.kids
      obtain rfl:vk=.slice ak ks.length ck:=by simpa using hvk
      have hown:=q27 HROW.out.own hbel
      rw [List.length_map,<- HNL.out] at hown
      obtain ⟨g,capg,hvg,-⟩:=own_form hown (by omega)
      obtain ⟨rfl,rfl⟩:a6=some ⟨g,0,none⟩/\c6=capg:=by injection hvg with h1 _ h3;exact ⟨h1,h3⟩
      have hfl:∀ (j:Nat) (u:Value),[Value.int .i64 kd,.int .i64 lv,.string i1,.string t,.string d,.string ti,.string at_.id,vc,vp,vl,.slice ak ks.length ck][j]?=some u->j<11->wr.cell? ⟨g,i*11+j,none⟩=some u:=by
       intro j u hu hj
       have h1:=q28 11 rows HROW.out.len i j _ _ hr hu
       have h2:=hown.cellAt (i*11+j) (by omega)
       rw [h1] at h2
       exact h2
      have c0:wr.cell? ⟨g,i*11,none⟩=some (.int .i64 kd):=hfl 0 _ rfl (by omega)
      have c2:wr.cell? ⟨g,i*11+2,none⟩=some (.string i1):=hfl 2 _ rfl (by omega)
      have c10:wr.cell? ⟨g,i*11+10,none⟩=some (.slice ak ks.length ck):=hfl 10 _ rfl (by omega)
      have hgw:g<wr.heap.size:=(hown.lt g rfl).2
      have hkr:Rd (·<wr.heap.size) wr (q0x ks) [.slice ak ks.length ck]:=(show Rd (·<w6.heap.size) w6 (q0x ks) [.slice ak ks.length ck] from hR.kids.weaken (fun b hb=>by have h9:b<w5.heap.size:=hb;omega)).up hbel
      have HKR:=Lib.hid hkr
      have hi0:(0:Int)<=(i:Int):=by omega
      have hi1:(i:Int)<(nL:Int):=by omega
      clear hx hxm hr hd hR hvk hown hvg hfl hkr hbel
      by_cases h13:kd=13
      case neg=>
       have q0:(kd != 13)=true:=by rw [bne_iff_ne];exact h13
       clear htoc h13
       go_wp2
       go_roundw
       case rel=>exact ⟨i+1,by omega,by go_num,HBEL.out⟩
       case measure=>simp [intOf];omega
      case pos=>
      subst h13
      have hf:=lit_eq i1 [116,111,99]
      change (i1.toList==_)=decide (i1=tocS) at hf
      by_cases hto:i1=tocS
      case neg=>
       rw [decide_eq_false hto] at hf
       have q0:(i1.toList != [116,111,99])=true:=by rw [bne,hf];rfl
       clear htoc hto
       go_wp2
       go_roundw
       case rel=>exact ⟨i+1,by omega,by go_num,HBEL.out⟩
       case measure=>simp [intOf];omega
      case pos=>
      have hks:ks=q1v (tocL (q25 (bareL l)) (q1o at_)):=htoc rfl hto
      rw [decide_eq_true hto] at hf
      have q0:(i1.toList != [116,111,99])=false:=by rw [bne,hf];rfl
      obtain ⟨E,hE⟩:∃ E,E=tocL (q25 (bareL l)) (q1o at_):=⟨_,rfl⟩
      rw [<- hE] at hks
      have hEw:∀ e∈E,EnWf e:=by rw [hE];exact toc_wf q0i l LD.out.err (q1o at_)
      have hEm:∀ e∈E,EnMd e:=by rw [hE];exact LD.out.ents at_
      have hEi:∀ e∈E,EnMi e:=by rw [hE];exact toc_mi (bareL l) (Blk.bareL_small l LD.out.sm) (Nat.le_trans (Blk.bareL_all l) LD.out.al) ns0_bD (q1o at_)
      have hEh:∀ e∈E,Blk.hdgL e.id F=true/\q06 e.id=false:=by rw [hE,HF.out];exact toc_hdg l (fillK l) (q1o at_)
      have hEc:E.length<=240:=by rw [hE];exact LD.out.cnt at_
      have hE01:E01 (Blk.errL q0i 0 0 ks):=by rw [hks];exact list_err q0i E hEw
      have TB:=Lib.hid (tBlocks_mid q0i ks ak ck wr (by rw [hks];exact list_mid E hEi) (fun h=>by rw [hks,list_mth] at h;cases h) HKR.out)
      obtain ⟨ne,hne⟩:∃ ne,ne=Blk.errL q0i 0 0 ks:=⟨_,rfl⟩
      rw [<- hne] at TB hE01
      have HLK:Hid (∀ x∈Blk.inlsL ks,x.kd=9->∃ e∈E,x=q21 e):=by rw [hks];exact list_link E hEw
      have hks1:Blk.szL ks<=1000000:=by rw [hks];have:=list_sz E;omega
      have hks2:(Blk.inlsL ks).length<=1000000:=by rw [hks];have:=list_cnt E hEm;omega
      have HEH:=Lib.hid hEh
      clear hks hE hEw hEm hEi hEh hEc hne htoc hto
      go_upto_region 11 with (fail)
      go_wp2_with fail
      (with_reducible refine TB.out.mono ?_)
      rintro e w7 ⟨rfl,b7⟩
      have c10:w7.cell? ⟨g,i*11+10,none⟩=some (.slice ak ks.length ck):=(b7.cell (p:=⟨g,i*11+10,none⟩) hgw).trans c10
      have B7:=Lib.hid (q01 HBEL.out b7)
      have RI:=Lib.hid (rInls_any ks (.slice ak ks.length ck) w7 hks1 hks2 (HKR.out.up b7))
      clear b7 TB c0 c2 hks1 hks2
      go_upto_region 12 with (fail)
      go_cut [59] (fun v wx=>v=.bool false/\wx=w7)
      case first=>
       rcases hE01 with rfl | rfl
       ·go_wp2
        go_meet
        exact ⟨rfl,rfl⟩
       ·go_wp2
        go_meet
        exact ⟨rfl,rfl⟩
      case rest=>
       obtain ⟨rfl,rfl⟩:=hcut
       clear hE01
       go_wp2_with fail
       (with_reducible refine RI.out.mono ?_)
       rintro e w8 ⟨v8,rfl,h8,b8⟩
       obtain ⟨M,hM⟩:∃ M,M=Blk.inlsL ks:=⟨_,rfl⟩
       rw [<- hM] at h8 HLK
       obtain ⟨a8,c8,hv8,hs8⟩:=Rd.sl_open h8
       obtain ⟨nM,hnM⟩:∃ nM,nM=M.length:=⟨_,rfl⟩
       obtain rfl:v8=.slice a8 nM c8:=by rw [hnM];simpa using hv8
       have hcap8:nM<=c8:=by rw [hnM];simpa using hs8.le
       have hmx8:=hs8.max
       unfold maxLen at hmx8
       have HS8:=Lib.hid hs8
       have HNM:=Lib.hid hnM
       have B8:=Lib.hid (q01 B7.out b8)
       have R0:Hid (LdRel w8 nM (.int .i64 0) w8):=⟨0,Nat.zero_le _,rfl,Below.refl _ _⟩
       clear h8 hv8 hs8 hM hnM b8 RI c10 B7
       go_wp2
       go_loopw [8] (fun vk wz=>LdRel w8 nM vk wz) (fun vk _=>nM-(intOf vk).toNat)
       case atStart=>exact R0.out
       case round=>
        clear R0
        obtain ⟨k,hk,rfl,hbz⟩:=hrel
        have HBZ:=Lib.hid hbz
        have hwzz:=hbz.size
        by_cases hkl:k<nM
        ·obtain ⟨x,hx⟩:∃ x,M[k]?=some x:=⟨_,List.getElem?_eq_getElem (by rw [<- HNM.out];exact hkl)⟩
         have hlk:=HLK.out x (List.mem_of_getElem? hx)
         obtain ⟨kx,tx,dd,tix,ax,arx,cix,ksx⟩:=x
         obtain ⟨g8,o8,vc8,vp8,va8,vi8,vk8,rfl,hok8,hg8,hc8,-⟩:=q1b (HS8.out.up0 hbz) hx
         obtain ⟨e0,e1,e2,e3,e4,e5,e6,e7,e8,e9⟩:=hc8
         have hk0:(0:Int)<=(k:Int):=by omega
         have hk1:(k:Int)<(nM:Int):=by omega
         clear hx hok8 e1 e3 e4 e5 e6 e7 e8 e9
         by_cases h9:kx=9
         ·obtain ⟨en,hen,hxe⟩:=hlk h9
          obtain ⟨hh1,hh2⟩:=HEH.out en hen
          have hdd:dd=hashB++en.id:=by unfold q21 at hxe;injection hxe
          have hls:=link_s en.id hh2
          rw [<- hdd] at hls
          obtain ⟨l1,l2,l3⟩:=hls
          have q1:decide ((1:Int)<(dd.size:Int))=true:=decide_eq_true (by omega)
          have q2:(1:Int)<=(dd.size:Int):=by omega
          have q3:1<=dd.size:=by omega
          have bzd:Below wr.heap.size wr wr.drew:=(Below.refl _ _).drew
          have HG:Hid (Calls Tryz.prog 21 #[.slice ab3 nb3 cb3,.string (dd.extract 1 dd.size)] wr.drew (HgPost wr.drew true)):=by
           rw [l3,<- hh1]
           exact heading_any en.id 1000000 F (.slice ab3 nb3 cb3) wr.drew hFs (((HB6.out.up B8.out).up hbz).up bzd)
          have KZ:CB 25 P [.slice am3 nm3 cm3,.slice ab3 nb3 cb3] wr:=(K6.out.below B8.out).below hbz
          have S0:wr.drew.cell? ⟨g8,o8+k*10,none⟩=some (.int .i64 9)/\wr.drew.cell? ⟨g8,o8+k*10+2,none⟩=some (.string dd)/\wr.drew.cell? ⟨P,1,none⟩=some (.slice ab3 nb3 cb3):=⟨by rw [<- h9];exact e0,e2,KZ.cell 1 _ rfl⟩
          have hPz:=KZ.lt
          have HP:Hid (g8<wr.heap.size/\P<wr.heap.size):=⟨hg8,hPz⟩
          subst h9
          clear hlk hen hxe hh1 hh2 hdd l3 hbz hg8 hPz KZ bzd e0 e2
          go_upto_region 18 with (fail)
          go_region_held3 (fun w'=>w'.cell? ⟨g8,o8+k*10,none⟩=some (.int .i64 9)/\w'.cell? ⟨g8,o8+k*10+2,none⟩=some (.string dd)/\w'.cell? ⟨P,1,none⟩=some (.slice ab3 nb3 cb3))
           (first | exact S0 | assumption | exact S9)
           (first | (go_simp;go_at_call 21;(with_reducible refine HG.out.mono ?_);rintro e w9 ⟨rfl,b9⟩;have S9:w9.cell? ⟨g8,o8+k*10,none⟩=some (.int .i64 9)/\w9.cell? ⟨g8,o8+k*10+2,none⟩=some (.string dd)/\w9.cell? ⟨P,1,none⟩=some (.slice ab3 nb3 cb3):=(by obtain ⟨hg8,hPz⟩:=HP.out;exact ⟨(b9.cell (p:=⟨g8,o8+k*10,none⟩) hg8).trans S0.1,(b9.cell (p:=⟨g8,o8+k*10+2,none⟩) hg8).trans S0.2.1,(b9.cell (p:=⟨P,1,none⟩) hPz).trans S0.2.2⟩);have B9:=Lib.hid (q01 HBZ.out (q01 (Below.refl _ _).drew b9));clear b9))
          all_goals
           clear HG S0 S9
           go_wp2
           go_roundw
           case rel=>exact ⟨k+1,by omega,by go_num,B9.out⟩
           case measure=>simp [intOf];omega
         ·have q9:(kx==9)=false:=by rw [beq_eq_false_iff_ne];exact h9
          clear hlk h9 hbz
          go_wp2_with fail
          go_quiet (fail)
          go_wp2
          go_roundw
          case rel=>exact ⟨k+1,by omega,by go_num,q03 HBZ.out _⟩
          case measure=>simp [intOf];omega
        ·have hkk:k=nM:=by omega
         subst hkk
         have B9:=Lib.hid (q01 B8.out hbz)
         clear hbz
         go_wp2
         go_roundw
         case rel=>exact ⟨i+1,by omega,by go_num,B9.out⟩
         case measure=>simp [intOf];omega
     ·have hkk:i=nL:=by omega
      subst hkk
      have AW:=Lib.hid (awake_any _ (HT6.out.below hbel))
      have HZ0:=Lib.hid (q01 HBB6.out hbel)
      clear hbel
      go_wp2_with fail
      refine AW.out.mono ?_
      rintro e w9 ⟨rfl,b9⟩
      have HZ:=Lib.hid (q01 HZ0.out b9)
      clear b9
      go_wp2
      go_ret
      exact ⟨rfl,HZ.out⟩
end Go.Proofs.YtlbioncagkkkoaaGreatDoor
