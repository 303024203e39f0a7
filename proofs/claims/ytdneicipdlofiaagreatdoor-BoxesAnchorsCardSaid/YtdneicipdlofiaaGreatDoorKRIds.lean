/- The contract of slug.named. slug.Anchors: what its second loop keeps. slug.Anchors. Plain part: the identifiers of a document, in the reference's order and in the program's. Plain part: what a small document's parts are bounded by, for layer 21. publisherref21.IDs: the identifiers of blocks and of what is in them. -/
import Derived.Test.YtdneicipdlofiaaGreatDoorKAnchW
import Derived.Test.YtdneicipdlofiaaGreatDoorKSlugAll
import Derived.Test.YtdneicipdlofiaaGreatDoorKRList
set_option maxHeartbeats 4000000
set_option maxRecDepth 100000
open Go.Lib (hid)
namespace Go.Proofs.YtdneicipdlofiaaGreatDoor
open List renaming length_append->jp4
open Go.RowKit
set_option linter.unusedVariables false
set_option linter.unusedSimpArgs false
section
variable {w:World} {bx p:Nat} {cs:List Value} {v:Value} {n:Nat} {rows:List (List Value)} {l:List ah} {A A':List ByteArray} {wr w':World}
end
open Go.RowKit Go.Shelf
theorem fB {F:Fence} {nF:Nat} {P:Program} {w:World} {ops:Array Oper} {o:Oper} {a:Act} {K:Act->World->Prop} {Q:Exit->Act->World->Prop} {E:Prop} (hgd:o.guard=none) (s x:Operand) (t:TypeId) (ho:o.op=.call { callee:=.builtin .append,args:=#[s,x],argTypes:=#[t,t] }) (base:Nat) (e:TypeId) (i:TypeInfo) (z:Value) (size bytes:Nat) (ht:P.underlying t=some (.slice e)) (hi:P.info? e=some i) (hz:i.zero=some z) (hsize:i.size=size) (hby:i.bytes=bytes) (hzs:z.cells.size=size) (hsz:0<size) (v:Value) (n:Nat) (xs:List Value) (hs:a.eval s=v) (hown:w.ownsRow base e size v n xs) (B:Nat) (A:Option Addr) (m c:Nat) (news:List Value) (hx:a.eval x=.slice A m c) (hr:Reads w B size A m news) (h1:∀ u∈news,u.oneCell'=true) (h63:n+m<=maxLen) (hbytes:(n+m)*bytes<=140737488355328) (hbase:base<=w.heap.size) (h:∀ v' w',w'.ownsRow base e size v' (n+m) (xs++news)->w.grownBy w' v.ownBlock->(v'.ownBlock=v.ownBlock\/v'.ownBlock=some w.heap.size)->K (a.put o.dst v') w') : if Region.wanted o (yielded ops a.tmps)=true then o.wpIn F nF P a w K Q else E:=by rw [if_pos (by simp [Region.wanted,hgd])];obtain ⟨v',w',hrun,h2,h3,h4⟩:=mF (P:=P) w base t o.type e i z size bytes ht hi hz hsize hby hzs hsz v n xs hown B A m c news hr h1 h63 hbytes hbase;unfold Oper.wpIn;refine ⟨by simp [Oper.about,ho,resolve,Target.leads,Sem.run_pure],?_⟩;rw [Oper.semAt_plain F _ _ (by rw [ho];intro c hc';cases hc')];simp [execOp,ho,resolve,invoke,builtin,hs,hx,hrun,Result.andThen];exact h v' w' h2 h3 h4
section
variable {S D bx:Nat} {w W W':World} {A:List ByteArray} {vm vb:Value}
end
open Go.RowKit Go.Shelf
attribute [local go_sem] Oper.semAt_some
def ig (a:At):List ByteArray:=if a.id.data.toList=[] then [] else [a.id]
mutual
def ah.ids:ah->List ByteArray
 | .mk _ _ _ _ _ _ a li ks=>ig a++bJ (aj.aA li)++ah.aN ks
def ah.aN:List ah->List ByteArray
 | []=>[]
 | x::l=>x.ids++ah.aN l
end
theorem ah.Ga (l m:List ah):ah.aN (l++m)=ah.aN l++ah.aN m:=by
 induction l with
 | nil=>rw [ah.aN];rfl
 | cons x l ih=>rw [List.cons_append,ah.aN,ah.aN,ih,List.append_assoc]
theorem ah.MG (l:List ah) (k:Nat) (x:ah) (h:l[k]?=some x):ah.aN (l.take (k+1))=ah.aN (l.take k)++x.ids:=by rw [List.take_add_one,h,ah.Ga];simp [ah.aN]
theorem Kh (a:At):(ig a).length<=1:=by unfold ig;split<;>simp
theorem Gb (l:List aj):(bJ l).length<=l.length:=List.length_filterMap_le _ _
mutual
theorem ah.Ug:∀ (b:ah),b.ids.length<=b.sz+b.inls.length
 | .mk _ _ _ _ _ _ a li ks=>by
  rw [ah.ids,ah.sz,ah.inls];have h1:=Kh a;have h2:=Gb (aj.aA li);have h3:=ah.nJ ks;simp only [jp4];omega
theorem ah.nJ:∀ (l:List ah),(ah.aN l).length<=ah.aX l+(ah.aQ l).length
 | []=>by rw [ah.aN];simp
 | b::l=>by
  rw [ah.aN,ah.aX,ah.aQ];have h1:=ah.Ug b;have h2:=ah.nJ l;simp only [jp4];omega
end
theorem ah.Br:∀ (l:List ah) (k:Nat) (x:ah),l[k]?=some x->x.inls.length<=(ah.aQ l).length
 | [],_,_,h=>by simp at h
 | y::l,0,x,h=>by simp at h;subst h;rw [ah.aQ,jp4];omega
 | y::l,k+1,x,h=>by
  have:=ah.Br l k x (by simpa using h);rw [ah.aQ,jp4];omega
theorem ah.Dt (l:List ah) (k:Nat):(ah.aN (l.take k)).length<=ah.aX l+(ah.aQ l).length:=by have h:=ah.nJ l;have e:=ah.Ga (l.take k) (l.drop k);rw [List.take_append_drop] at e;have:=congrArg List.length e;rw [jp4] at this;omega
open Go.RowKit
structure qU (w0:World) (xs:List ByteArray) (v:Value) (w:World):Prop where
 own:w.ownsRow w0.heap.size 9 1 v xs.length (xs.map Value.string)
 gH:Below w0.heap.size w0 w
section
variable {w0 w w1 w2:World} {xs ys:List ByteArray} {v v':Value}
theorem qU.nil (w0:World):qU w0 [] (.slice none 0 0) w0:=⟨⟨by simp,.inl ⟨rfl,rfl⟩⟩,Below.refl _ _⟩
theorem qU.up (h:qU w0 xs v w) (hb:Below w.heap.size w w1):qU w0 xs v w1:=⟨zY h.own hb,aP h.gH hb⟩
theorem qU.grown (h:qU w0 xs v w) (hown:w1.ownsRow w0.heap.size 9 1 v' ys.length (ys.map Value.string)) (hg:w.grownBy w1 v.ownBlock):qU w0 ys v' w1:=by
 refine ⟨hown,?_⟩;have hb:=h.gH;have hne:∀ b,b<w0.heap.size->some b≠v.ownBlock:=fun b hlt e=>by have:=(h.own.lt b e.symm).1;omega
 exact ⟨hg.os.trans hb.os,hg.tape.trans hb.tape,hg.output.trans hb.output,Nat.le_trans hb.size hg.size,fun b hlt=>(hg.block b (Nat.lt_of_lt_of_le hlt hb.size) (hne b hlt)).trans (hb.block b hlt)⟩
end
theorem JO {ok:Nat->Prop} {W wr:World} {B:Nat} {v:Value} {inl:List aj} {rows:List (List Value)} (hown:wr.ownsRow B 43 10 v inl.length rows.flatten) (hrd:aL ok W (inl.map aj.d) rows) (h10:∀ r∈rows,r.length=10) {k:Nat} {kd:Int} {t d ti:ByteArray} {at_:At} {ar:List ByteArray} {ci:List Ci} {ks:List aj} (hx:inl[k]?=some (.mk kd t d ti at_ ar ci ks)) : ∃ g cap ac nc cc ap np cp aa na ca ai ni ci ak nk ck,v=.slice (some ⟨g,0,none⟩) inl.length cap/\gL wr g (k*10) kd t d ti at_.id (.slice ac nc cc) (.slice ap np cp) (.slice aa na ca) (.slice ai ni ci) (.slice ak nk ck):=by
 have hlt:k<inl.length:=(List.getElem?_eq_some_iff.1 hx).1;obtain ⟨r,hr,jl3⟩:=hrd.get k _ (by rw [List.getElem?_map,hx];rfl);obtain ⟨vc,vp,va,vi,vk,hcs,hR⟩:=aj.open_ jl3;obtain ⟨ac,nc,cc,rfl⟩:=Rd.au hR.at_.cls
 obtain ⟨ap,np,cp,rfl⟩:=Rd.au hR.at_.aJ
 obtain ⟨aa,na,ca,rfl⟩:=Rd.au hR.args;obtain ⟨ai,ni,ci,rfl⟩:=Rd.au hR.ji;obtain ⟨ak,nk,ck,rfl⟩:=Rd.au hR.kids;obtain ⟨g,cap,rfl,hcap⟩:=eB hown (by omega);refine ⟨g,cap,ac,nc,cc,ap,np,cp,aa,na,ca,ai,ni,ci,ak,nk,ck,rfl,gL.of hcs fun j u hu=>?_⟩;have hf:=flat_get 10 rows h10 k j r u hr hu;have hj:j<10:=by have h5:=(List.getElem?_eq_some_iff.1 hu).1;have:=h10 r (List.mem_of_getElem? hr);omega
 exact (hown.cellAt (k*10+j) (by omega)).trans hf
theorem Gc (l:List aj) (k:Nat) (kd:Int) (t d ti:ByteArray) (at_:At) (ar:List ByteArray) (ci:List Ci) (ks:List aj) (h:l[k]?=some (.mk kd t d ti at_ ar ci ks)):bJ (l.take (k+1))=bJ (l.take k)++ig at_:=by
 unfold bJ ig;rw [List.take_add_one,h,List.filterMap_append];simp only [Option.toList_some,List.filterMap_cons,List.filterMap_nil,aj.id1];by_cases h:at_.id.data.toList=[]
 ·simp only [if_pos h]
 ·simp only [if_neg h]
def VQ (w:World) (l:List ah) (v vi:Value) (wr:World):Prop:=∃ k:Nat,k<=l.length/\vi=.int .i64 k/\qU w (ah.aN (l.take k)) v wr
def VT (w:World) (base:List ByteArray) (xs:List aj) (rows:List (List Value)) (B:Nat) (v2:Value) (v vi:Value) (wr:World):Prop:=
 ∃ k:Nat,k<=xs.length/\vi=.int .i64 k/\qU w (base++bJ (xs.take k)) v wr/\wr.ownsRow B 43 10 v2 xs.length rows.flatten/\(∀ g,v2.ownBlock=some g->v.ownBlock≠some g)
theorem SB (n:Nat):∀ (l:List ah) (B:Nat) (v:Value) (w:World),ah.aX l+(ah.aQ l).length<=n->n<=200000->Rd (·<B) w (om l) [v]->B<=w.heap.size -> Calls Tryz.prog 21 #[v] w fun e w'=>∃ v',e=.returned v'/\qU w (ah.aN l) v' w':=by
 induction n using Nat.strongRecOn with
 | _ n ih=>
  intro l B v w hn hnm hrd hB;obtain ⟨i0,hi0,hz0,hz1,hz2⟩:=info_parts ku;obtain ⟨a,cap,hv,hs⟩:=Rd.aC hrd;obtain rfl:v=.slice a l.length cap:=by simpa using hv
  have hcap:l.length<=cap:=by simpa using hs.le
  have hmx:=hs.max;unfold maxLen at hmx;have HS:=hid hs;have IH:=hid ih;have R0:Hid (VQ w l (.slice none 0 0) (.int .i64 0) w):=⟨0,Nat.zero_le _,rfl,by rw [List.take_zero,ah.aN];exact qU.nil _⟩;clear hs hv hrd ih;go_enter Tryz.func21,Tryz.ntmps21;go_wp2
  go_loopw [3,4] (fun v vi wr=>VQ w l v vi wr) (fun _ i _=>l.length-(intOf i).toNat)
  case atStart=>exact R0.out
  case round=>
   clear R0;obtain ⟨k,hk,rfl,hrow⟩:=hrel;obtain ⟨av,cv,TJ⟩:=q01 hrow.own;subst TJ;by_cases hlt:k<l.length
   ·obtain ⟨x,hx⟩:∃ x,l[k]?=some x:=⟨_,List.getElem?_eq_getElem hlt⟩;obtain ⟨kd,lv,inf,t,d,ti,at_,li,ks⟩:=x;obtain ⟨g,off,vc,vp,vl,vk,rfl,hok,hbl,hc,hR⟩:=dH HS.out hx;have hsz:=ah.bP l k _ hx;rw [ah.sz] at hsz;have hil:=ah.Br l k _ hx;rw [ah.inls,jp4] at hil;obtain ⟨al,nl,cl,rfl⟩:=Rd.zO hR.line;obtain ⟨ac,nc,cc,rfl⟩:=Rd.zO hR.at_.cls
    obtain ⟨ap,np,cp,rfl⟩:=Rd.zO hR.at_.aJ
    obtain ⟨ak,nk,ck,rfl⟩:=Rd.zO hR.kids;have hgw:wr.heap[g]?=w.heap[g]?:=hrow.gH.block g (by omega);obtain ⟨p0,p1,p2,p3,p4,p5,p6,p7,p8,p9,Gz⟩:=hc.at4 (w':=wr) hgw;have Qw:=ah.nJ (l.take k);have jf0:=ah.Dt l k;obtain ⟨base,hbase⟩:∃ base,base=ah.aN (l.take k):=⟨_,rfl⟩;have HID:=hid (ah.MG l k _ hx);rw [ah.ids] at HID;rw [<- hbase] at hrow Qw jf0 HID ⊢;have jmq:=hid hbase;have qJ:=hid hrow;have HR:=hid hR;have HX:=hid hx;have HC:=hid hc;have hwz:=hrow.gH.size;clear hc hR hx hrow hbase;have jf1:base.length<=200000:=by omega
    go_upto_if 19 with (fail)
    go_cut [3] (fun v3 wx=>qU w (base++ig at_) v3 wx)
    case first=>
     by_cases h0:at_.id.data.toList=[]
     ·have q2:at_.id.toList.isEmpty=true:=by rw [Lib.toList_data,h0];rfl
      have hI:ig at_=[]:=by unfold ig;rw [if_pos h0]
      simp only [q2,Bool.not_true];go_wp2_with fail
      go_meet
      rw [hI,List.append_nil];exact qJ.out
     ·have q2:at_.id.toList.isEmpty=false:=by rw [Lib.toList_data];cases h:at_.id.data.toList<;>simp_all
      have hI:ig at_=[at_.id]:=by unfold ig;rw [if_neg h0]
      have HO:=hid qJ.out.own;simp only [q2,Bool.not_false];go_wp2_with (at_builtin;refine Dy _ rfl (.tmp 20) (.tmp 27) 35 rfl w.heap.size 9 i0 _ 1 16 Tryz.underlying35 hi0 hz0 hz1 hz2 rfl (by decide) (.slice av base.length cv) base.length (base.map Value.string) rfl (HO.out.alloc _) (wr.heap.size+1) (some ⟨wr.heap.size,0,none⟩) 1 1 [.string at_.id] rfl ?g1 ?g2 ?g3 ?g4 ?g5 ?_)
      case g1=>exact ⟨rfl,fun _=>⟨_,rfl,by simp,TD wr [.string at_.id] _⟩⟩
      case g2=>intro u hu;simp at hu;subst hu;rfl
      case g3=>unfold maxLen;omega
      case g4=>omega
      case g5=>simp;omega
      intro v1 w1 hown1 hg1 _;obtain ⟨a1,c1,rfl⟩:=q01 hown1;have R1:=hid ((qJ.out.up ((Below.refl _ _).alloc (Nat.le_refl _) _)).grown (ys:=base++ig at_) (by rw [hI];simpa using hown1) hg1);clear hown1 hg1 p0 p1 p2 p3 p4 p5 p6 p7 p8 p9 Gz;go_wp2_with fail
      go_meet
      exact R1.out
    case rest=>
     obtain ⟨b1,hb1⟩:∃ b1,b1=base++ig at_:=⟨_,rfl⟩
     have jo1:b1.length<=200001:=by have:=Kh at_;rw [hb1,jp4];omega
     rw [<- hb1] at hcut;have HB1:=hid hb1;clear hb1;obtain ⟨a3,c3,hu3⟩:=q01 hcut.own;subst hu3;have hdn:aj.aX li<=200000:=by have:=aj.dJ li;omega
     have jf2:wc.heap[g]?=w.heap[g]?:=hcut.gH.block g (by omega);have p9:=(HC.out.at4 (w':=wc) jf2).c9;have jo2:=hcut.gH.size;have hdl:(aj.aA li).length=aj.aX li:=aj.dJ li;have DP:=hid (Qx (aj.aX li) li B (.slice al nl cl) wc (Nat.le_refl _) (by omega) (Rd.keep (fun b h1 h2=>⟨h1,hcut.gH.block b h2⟩) _ _ HR.out.line) (by omega));have Uh:=hid hcut;clear hcut qJ p0 p1 p2 p3 p4 p5 p6 p7 p8 p9 Gz hgw jf2;have p9:=(HC.out.at4 (w':=wc) (Uh.out.gH.block g (by omega))).c9;go_wp2_with fail
     refine DP.out.mono ?_;rintro e w2 ⟨v2,rows,rfl,hrow2⟩;obtain ⟨a2,c2,rfl⟩:=q01 hrow2.own;obtain ⟨xs,hxs⟩:∃ xs,xs=aj.aA li:=⟨_,rfl⟩;rw [<- hxs] at hrow2 hdl HID ⊢;have hxl:(xs.map aj.d).length=xs.length:=List.length_map ..;have R20:Hid (VT w b1 xs rows wc.heap.size (.slice a2 (xs.map aj.d).length c2) (.slice a3 b1.length c3) (.int .i64 0) w2):=by
      refine ⟨0,Nat.zero_le _,rfl,?_,by have:=hrow2.own;rw [hxl] at this ⊢;exact this,?_⟩
      ·rw [List.take_zero];have:=Uh.out.up hrow2.gH;simpa [bJ] using this
      ·intro g hg e;have h1:=(hrow2.own.lt g hg).1;have h2:=(Uh.out.own.lt g e).2;omega
     have jf3:=hid hrow2.red;have HLEN:=hid hrow2.len;have HXL:=hid hxl;have HXS:=hid hxs;have hxb:xs.length<=200000:=by omega
     clear hrow2 DP p9 hxl hxs Uh;go_wp2
     go_loopw [3,6] (fun v vi wr=>VT w b1 xs rows wc.heap.size (.slice a2 (xs.map aj.d).length c2) v vi wr) (fun _ i _=>xs.length-(intOf i).toNat)
     case atStart=>exact R20.out
     case round=>
      clear R20;obtain ⟨j,hj,rfl,Ki,hown2,hnej⟩:=hrel;obtain ⟨av3,cv3,jl4⟩:=q01 Ki.own;subst jl4;obtain ⟨wj,hwj⟩:∃ wj:World,wj=wr:=⟨_,rfl⟩;subst hwj;have hjl:(b1++bJ (xs.take j)).length<=700000:=by have h2:=Gb (xs.take j);rw [List.length_take] at h2;simp only [jp4];omega
      obtain ⟨bj,hbj⟩:∃ bj,bj=b1++bJ (xs.take j):=⟨_,rfl⟩;rw [<- hbj] at Ki hjl hnej ⊢;have Q7:=hid hbj;have Zc:=hid Ki;have NA:=hid hown2;have HNE:=hid hnej;clear hbj Ki hown2 hnej;by_cases hjlt:j<xs.length
      ·obtain ⟨y,hy⟩:∃ y,xs[j]?=some y:=⟨_,List.getElem?_eq_getElem hjlt⟩;obtain ⟨kd',t',d',YR,at',ar',ci',ks'⟩:=y;obtain ⟨g',cap',ac',nc',cc',ap',np',cp',aa',na',ca',ai',ni',ci2,ak',nk',ck',jf4,hcells⟩:=JO NA.out jf3.out HLEN.out hy;simp only [Value.slice.injEq] at jf4;obtain ⟨rfl,-,rfl⟩:=jf4;obtain ⟨q0,q1,q2,q3,q4,q5,q6,q7,q8,q9⟩:=hcells;have rZ:=hid (Gc xs j _ _ _ _ _ _ _ _ hy);clear hy;by_cases h0:at'.id.data.toList=[]
       ·have r2:at'.id.toList.isEmpty=true:=by rw [Lib.toList_data,h0];rfl
        have hI:ig at'=[]:=by unfold ig;rw [if_pos h0]
        go_wp2_with fail
        go_roundw;case rel=>exact ⟨j+1,by omega,by go_num,by rw [rZ.out,hI,List.append_nil,<- Q7.out];exact Zc.out,NA.out,HNE.out⟩
        case measure=>simp [intOf];omega
       ·have r2:at'.id.toList.isEmpty=false:=by rw [Lib.toList_data];cases h:at'.id.data.toList<;>simp_all
        have hI:ig at'=[at'.id]:=by unfold ig;rw [if_neg h0]
        have HO:=hid Zc.out.own;have hws:=Zc.out.gH.size;go_wp2_with (at_builtin;refine Dy _ rfl (.tmp 48) (.tmp 55) 35 rfl w.heap.size 9 i0 _ 1 16 Tryz.underlying35 hi0 hz0 hz1 hz2 rfl (by decide) (.slice av3 bj.length cv3) bj.length (bj.map Value.string) rfl (HO.out.alloc _) (wj.heap.size+1) (some ⟨wj.heap.size,0,none⟩) 1 1 [.string at'.id] rfl ?g1 ?g2 ?g3 ?g4 ?g5 ?_)
        case g1=>exact ⟨rfl,fun _=>⟨_,rfl,by simp,TD wj [.string at'.id] _⟩⟩
        case g2=>intro u hu;simp at hu;subst hu;rfl
        case g3=>unfold maxLen;omega
        case g4=>omega
        case g5=>simp;omega
        intro v1 w1 hown1 hg1 Iq;obtain ⟨a1,c1,rfl⟩:=q01 hown1;have R1:=hid ((Zc.out.up ((Below.refl _ _).alloc (Nat.le_refl _) _)).grown (ys:=bj++ig at') (by rw [hI];simpa using hown1) hg1);have K1:=hid ((NA.out.alloc (.cells #[.string at'.id] 9)).kept hg1 (.inr (fun e=>HNE.out _ rfl e.symm)));have N1:Hid (∀ g,(Value.slice (some ⟨g',0,none⟩) (xs.map aj.d).length c2).ownBlock=some g->(Value.slice a1 (bj.length+1) c1).ownBlock≠some g):=by
         intro g hg e;have h1:=(NA.out.lt g hg).2;rcases Iq with h | h
         ·rw [h] at e;exact HNE.out g hg e
         ·rw [h] at e;have:=Option.some.inj e;omega
        clear hown1 hg1 Iq q0 q1 q2 q3 q4 q5 q6 q7 q8 q9 HNE NA;go_wp2_with fail
        go_roundw;case rel=>exact ⟨j+1,by omega,by go_num,by rw [rZ.out,hI,<- List.append_assoc,<- Q7.out,<- hI];exact R1.out,K1.out,N1.out⟩
        case measure=>simp [intOf];omega
      ·have Yn:j=xs.length:=by omega
       subst Yn;rw [List.take_length] at Q7;have hbJ:=Zc.out.gH;have Gz:=(HC.out.at4 (w':=wj) (hbJ.block g (by omega))).c10;have hsz1:=hbJ.size;have IK:=hid (IH.out (ah.aX ks+(ah.aQ ks).length) (by omega) ks B (.slice ak nk ck) wj (Nat.le_refl _) (by omega) (Rd.keep (fun b h1 h2=>⟨h1,hbJ.block b h2⟩) _ _ HR.out.kids) (by omega));have hkl:=ah.nJ ks;clear hbJ NA HNE jf3 HLEN;go_wp2_with fail
       refine IK.out.mono ?_;rintro e w4 ⟨v4,rfl,hrow4⟩;obtain ⟨a4,c4,rfl⟩:=q01 hrow4.own;have hb4:=hrow4.gH;have jo3:=hb4.size;have R4:=hid (Zc.out.up hb4);have RD4:=hid (Reads.bV hrow4.own);have GX:=hid R4.out.own;clear hrow4 hb4 IK Gz;go_wp2_with (at_builtin;refine Dy _ rfl (.tmp 57) (.tmp 63) 35 rfl w.heap.size 9 i0 _ 1 16 Tryz.underlying35 hi0 hz0 hz1 hz2 rfl (by decide) (.slice av3 bj.length cv3) bj.length (bj.map Value.string) rfl GX.out w4.heap.size a4 (ah.aN ks).length c4 ((ah.aN ks).map Value.string) rfl RD4.out ?k2 ?k3 ?k4 ?k5 ?_)
       case k2=>intro u hu;obtain ⟨y,_,rfl⟩:=List.mem_map.1 hu;rfl
       case k3=>unfold maxLen;omega
       case k4=>omega
       case k5=>omega
       intro v5 w5 hown5 hg5 _;obtain ⟨a5,c5,rfl⟩:=q01 hown5;have R5:=hid (R4.out.grown (ys:=bj++ah.aN ks) (by rw [jp4,List.map_append];exact hown5) hg5);clear hown5 hg5 R4 RD4;go_wp2;go_roundw;case rel=>
        refine ⟨k+1,by omega,by go_num,?_⟩;have e:ah.aN (l.take (k+1))=bj++ah.aN ks:=by rw [HID.out,Q7.out,HB1.out];simp only [List.append_assoc]
        rw [e];exact R5.out
       case measure=>simp [intOf];omega
   ·have hkl:k=l.length:=by omega
    subst hkl;rw [List.take_length] at hrow ⊢;have qJ:=hid hrow;clear hrow HS IH;go_wp2;go_ret;exact ⟨.slice av _ cv,rfl,qJ.out⟩
end Go.Proofs.YtdneicipdlofiaaGreatDoor

