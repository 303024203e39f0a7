/- Plain part: the anchors of a page have the identifiers of its document. Plain part: slides, as the program and as the reference divide blocks. Plain part: the sections of the page with slides, as the program and as the reference cut the blocks. Plain part: the page with slides has the anchors of the page, each as often. Plain part: the page of a well-formed document is valid markup. Plain part: the page of a well-formed, resolved document is valid markup (blocks, notes, the page). Plain part: the pieces of a well-formed document are well-formed; the page with slides is valid markup. Plain part: what the walk of the nodes of blocks asks, where blocks stand that are no rows and no cells. publisherref04.Deep, List: inlines and blocks with those in them, in document order. publisherref04.List: blocks with those in them, in document order. The contract of publisherref04.Inlines: all inlines of blocks. Plain part: all inlines of blocks: theirs are among them; how large they are together; unresolved ones. -/
import Derived.Test.YtclikfjalmcoaaaGreatDoorJNdW
import Derived.Test.YtclikfjalmcoaaaGreatDoorJRfD
set_option maxHeartbeats 4000000
set_option maxRecDepth 100000
open Go.Lib (hid)
namespace Go.Proofs.YtclikfjalmcoaaaGreatDoor
open List renaming length_append->jcq
set_option linter.unusedVariables false
set_option linter.unusedSimpArgs false
mutual
def Nd.vals (key:ByteArray):Nd->List ByteArray
 | .mk n _ a ks=>if aW n=true then [] else ((a.filter fun p=>decide (p.key=key)).map (·.val))++Nd.bV key ks
def Nd.bV (key:ByteArray):List Nd->List ByteArray
 | []=>[]
 | x::l=>x.vals key++Nd.bV key l
end
theorem yA (key:ByteArray) (l m:List Nd):Nd.bV key (l++m)=Nd.bV key l++Nd.bV key m:=by
 induction l with
 | nil=>rw [Nd.bV];rfl
 | cons x l ih=>rw [List.cons_append,Nd.bV,Nd.bV,ih,List.append_assoc]
def au.Ta:au->Int
 | .mk k _ _ _ _ _ _ _ _=>k
def au.iOf:au->ByteArray
 | .mk _ _ i _ _ _ _ _ _=>i
theorem yT (cl:ByteArray->Bool):∀ (l:List au) (par:Int) (dp:Nat),au.aP cl par dp l=0->∀ x∈l,fU x.Ta par=true/\∃ dp',x.err cl par dp'=0
 | [],_,_,_,x,hx=>by cases hx
 | b::l,par,dp,h,x,hx=>by
  rw [au.aP] at h;split at h
  ·rename_i h1;exact absurd h h1
  ·rename_i h1
   rcases List.mem_cons.1 hx with rfl | hx
   ·have h2:=Classical.not_not.1 h1;refine ⟨?_,dp,h2⟩;obtain ⟨k,lv,i,t,d,ti,a,li,ks⟩:=x;rw [au.err] at h2;split at h2
    ·cases h2
    ·split at h2
     ·cases h2
     ·rename_i h3
      show fU k par=true;cases h4:fU k par
      ·exact absurd (.inr h4) h3
      ·rfl
   ·exact yT cl l par dp h x hx
theorem Q5 (a b:List UInt8):A8 (a++b)=A8 a++A8 b:=by apply ByteArray.ext;apply Array.toList_inj.1;show (a++b).toArray.toList=_;simp [A8,ByteArray.data_append]
theorem Ng (s:ByteArray):A8 s.data.toList=s:=by apply ByteArray.ext;apply Array.toList_inj.1;show s.data.toList.toArray.toList=_;simp
theorem JW (n m:Nat) (h:n<10 ^ (m+1)):(Lib.decDigits n).length<=m+1:=by
 induction m generalizing n with
 | zero=>
  rw [Lib.decDigits,dif_pos (by simpa using h)];simp
 | succ m ih=>
  rw [Lib.decDigits];split
  ·simp
  ·rw [jcq,List.length_singleton];have:=ih (n/10) (by
    rw [Nat.div_lt_iff_lt_mul (by decide)];have e:10 ^ (m+1+1)=10 ^ (m+1)*10:=Nat.pow_succ ..;omega)
   omega
theorem jU (cl:ByteArray->Bool) {k lv:Int} {i t d ti:ByteArray} {a:At} {li:List ah} {ks:List au} {par:Int} {dp:Nat} (h:(au.mk k lv i t d ti a li ks).err cl par dp=0) : sZ cl k lv i t d ti a li ks=0/\AQ k lv i t d ti a li ks=true/\au.aP cl k (dp+1) ks=0:=by
 rw [au.err] at h;split at h
 ·cases h
 ·split at h
  ·cases h
  ·rename_i hb
   split at h
   ·rename_i h1;exact absurd h h1
   ·rename_i h1
    refine ⟨Classical.not_not.1 h1,?_,h⟩;cases hx:AQ k lv i t d ti a li ks
    ·exact absurd (.inl hx) hb
    ·rfl
theorem LA (cl:ByteArray->Bool) {k lv:Int} {i t d ti:ByteArray} {a:At} {li:List ah} {ks:List au} (h2:sZ cl k lv i t d ti a li ks=0) (hbf:AQ k lv i t d ti a li ks=true):tJ li=0:=by
 unfold sZ at h2;by_cases c1:k=1
 ·rw [if_pos c1] at h2;split at h2
  ·cases h2
  ·exact h2
 rw [if_neg c1] at h2;by_cases c2:k=2
 ·rw [if_pos c2] at h2;split at h2
  ·cases h2
  ·split at h2
   ·rename_i h3;exact absurd h2 h3
   ·split at h2
    ·cases h2
    ·exact h2
 rw [if_neg c2] at h2;by_cases c3:k=12
 ·rw [if_pos c3] at h2;split at h2
  ·cases h2
  ·exact h2
 ·have:li=[]:=by
   unfold AQ at hbf;simp only [Bool.and_eq_true] at hbf;have b8:=hbf.1.2;rw [Bool.or_eq_true] at b8;rcases b8 with b8 | b8
   ·simp at b8;omega
   ·simpa using b8
  rw [this];unfold tJ;rw [ah.aP]
theorem vU (cl:ByteArray->Bool) (par:Int) (dp:Nat):∀ (l:List au),au.aP cl par dp l=0↔∀ b∈l,b.err cl par dp=0
 | []=>by rw [au.aP];exact ⟨fun _ b hb=>(by cases hb),fun _=>rfl⟩
 | x::l=>by
  rw [au.aP];by_cases h:x.err cl par dp=0
  ·rw [if_neg (by simp [h]),vU cl par dp l];constructor
   ·intro h1 b hb;rcases List.mem_cons.1 hb with rfl | hb
    ·exact h
    ·exact h1 b hb
   ·exact fun h1 b hb=>h1 b (List.mem_cons_of_mem _ hb)
  ·rw [if_pos h];exact ⟨fun h1=>absurd h1 h,fun h1=>absurd (h1 x (List.mem_cons_self ..)) h⟩
theorem G8:∀ (l:List au),(au.dx l).any iw=false↔∀ b∈l,b.bC.any iw=false
 | []=>by rw [au.dx];exact ⟨fun _ b hb=>(by cases hb),fun _=>rfl⟩
 | x::l=>by
  rw [au.dx,List.any_append,Bool.or_eq_false_iff,G8 l];constructor
  ·rintro ⟨h1,h2⟩ b hb;rcases List.mem_cons.1 hb with rfl | hb
   ·exact h1
   ·exact h2 b hb
  ·exact fun h=>⟨h x (List.mem_cons_self ..),fun b hb=>h b (List.mem_cons_of_mem _ hb)⟩
mutual
def au.J2:au->Prop
 | .mk k lv i t d ti a li ks=>ah.Ev li/\(k=2\/k=8->0<=lv/\lv<=999999999)/\(k=10->ks≠[]/\∀ r∈ks,r.kids.length=i.size/\∀ c∈r.kids,ah.Ev c.l6)/\(∀ c∈a.cls,aW c=false)/\(k=13->aW i=false)/\k≠11/\k≠12/\(k≠10->au.rT ks)
def au.rT:List au->Prop
 | []=>True
 | x::l=>x.J2/\au.rT l
end
theorem G9:∀ (l:List au),(au.dx l).any iw=false->∀ b∈l,kR b.l6=false/\(au.dx b.kids).any iw=false:=by intro l h b hb;have h1:=(G8 l).1 h b hb;obtain ⟨k,lv,i,t,d,ti,a,li,ks⟩:=b;rw [au.bC,List.any_append,Bool.or_eq_false_iff] at h1;exact h1
mutual
theorem au.LB (cl:ByteArray->Bool):∀ (b:au) (par:Int) (dp:Nat),par≠10->par≠11->fU b.Ta par=true->b.err cl par dp=0->(b.bC).any iw=false->b.J2
 | .mk k lv i t d ti a li ks,par,dp,hp0,hp1,hpl,h,hu=>by
  have hh:=au.G7 cl _ par dp h hu;obtain ⟨h2,hbf,h3⟩:=jU cl h;rw [au.hok] at hh;obtain ⟨g1,g2,g3,g4,g5,g6⟩:=hh;rw [au.bC,List.any_append,Bool.or_eq_false_iff] at hu;have hk:k≠11/\k≠12:=by
   have hpl':fU k par=true:=hpl;unfold fU at hpl';split at hpl'
   ·have:=of_decide_eq_true hpl';omega
   ·(try rw [if_neg hp0,if_neg hp1] at hpl')
    simp at hpl';omega
  rw [au.J2];refine ⟨g1,g2,fun h10=>?_,g4,g5,hk.1,hk.2,fun h10=>au.mZ cl ks k (dp+1) h10 hk.1 h3 hu.2⟩;obtain ⟨q1,q2⟩:=g3 h10;refine ⟨q1,fun r hr=>⟨q2 r hr,fun c hc=>?_⟩⟩;have r1:=(vU cl k (dp+1) ks).1 h3 r hr;have r2:=G9 ks hu.2 r hr;obtain ⟨k',lv',i',t',d',Zj,a',li',ks'⟩:=r;obtain ⟨-,-,s3⟩:=jU cl r1;have c1:=(vU cl k' (dp+1+1) ks').1 s3 c hc;have c2:=G9 ks' r2.2 c hc;obtain ⟨k9,lv9,i9,t9,d9,ti9,a9,li9,ks9⟩:=c;obtain ⟨u1,u2,-⟩:=jU cl c1;exact zW li9 (LA cl u1 u2) c2.1
theorem au.mZ (cl:ByteArray->Bool):∀ (l:List au) (par:Int) (dp:Nat),par≠10->par≠11->au.aP cl par dp l=0->(au.dx l).any iw=false->au.rT l
 | [],_,_,_,_,_,_=>by rw [au.rT];trivial
 | x::l,par,dp,hp0,hp1,h,hu=>by
  have hpl:=(yT cl (x::l) par dp h x (List.mem_cons_self ..)).1;rw [au.aP] at h;rw [au.dx,List.any_append,Bool.or_eq_false_iff] at hu;rw [au.rT];split at h
  ·rename_i h1;exact absurd h h1
  ·rename_i h1
   exact ⟨au.LB cl x par dp hp0 hp1 hpl (Classical.not_not.1 h1) hu.1,au.mZ cl l par dp hp0 hp1 h hu.2⟩
end
open Go.RowKit
theorem Ow:(Tryz.prog.info? 51).map (fun i=>(i.zero,i.size,i.bytes))=some (some (.agg #[.int .i64 0,.string ByteArray.empty,.string ByteArray.empty,.string ByteArray.empty,.string ByteArray.empty,.slice none 0 0,.slice none 0 0,.slice none 0 0,.slice none 0 0,.slice none 0 0]),10,192):=by kernel_rfl
mutual
theorem Rd.ru {ok:Nat->Prop} {w:World}:∀ (d:D) (cs:List Value),Rd ok w d cs->∀ u∈cs,u.oneCell'=true
 | .int _ _,_,h,u,hu=>by rw [h.ql] at hu;simp at hu;subst hu;rfl
 | .bool _,_,h,u,hu=>by rw [h.yU] at hu;simp at hu;subst hu;rfl
 | .str _,_,h,u,hu=>by rw [h.bq] at hu;simp at hu;subst hu;rfl
 | .st fs,_,h,u,hu=>by
  obtain ⟨rows,hr,rfl⟩:=h.kU;exact aO.ru fs rows hr u hu
 | .sl k l,_,h,u,hu=>by
  obtain ⟨a,cap,rfl,_⟩:=h.aD;simp at hu;subst hu;rfl
theorem aO.ru {ok:Nat->Prop} {w:World}:∀ (l:List D) (rows:List (List Value)),aO ok w l rows->∀ u∈rows.flatten,u.oneCell'=true
 | [],_,h,u,hu=>by rw [h.dL] at hu;simp at hu
 | d::ds,_,h,u,hu=>by
  obtain ⟨r,rs,rfl,h1,h2⟩:=h.aG;rw [List.flatten_cons] at hu;rcases List.mem_append.1 hu with hu | hu
  ·exact Rd.ru d r h1 u hu
  ·exact aO.ru ds rs h2 u hu
end
structure Row (T:TypeId) (k B:Nat) (w0:World) (ds:List D) (rows:List (List Value)) (v:Value) (w:World):Prop where
 own:w.ownsRow w0.heap.size T k v ds.length rows.flatten
 red:aO (·<B) w ds rows
 len:∀ r∈rows,r.length=k
 aJ:Below w0.heap.size w0 w
section
variable {T:TypeId} {k B:Nat} {w0 w w1 w2:World} {ds es:List D} {rows bg:List (List Value)} {v v':Value}
theorem Row.nil (T:TypeId) (k B:Nat) (w0:World):Row T k B w0 [] [] (.slice none 0 0) w0:=⟨⟨by simp,.inl ⟨rfl,rfl⟩⟩,aO.none,by simp,Below.refl _ _⟩
theorem Row.up (h:Row T k B w0 ds rows v w) (hB:B<=w.heap.size) (hb:Below w.heap.size w w1):Row T k B w0 ds rows v w1:=
 ⟨q1z h.own hb,aO.keep (fun b h1 h2=>⟨h1,hb.block b h2⟩) _ _ h.red,h.len,aQ h.aJ hb⟩
theorem Row.app (h:Row T k B w0 ds rows v w1) (hB:B<=w0.heap.size) (hes:aO (·<B) w1 es bg) (hl2:∀ r∈bg,r.length=k) (hown:w2.ownsRow w0.heap.size T k v' (ds.length+es.length) (rows.flatten++bg.flatten)) (hg:w1.grownBy w2 v.ownBlock):Row T k B w0 (ds++es) (rows++bg) v' w2:=by
 have hne:∀ b,b<w0.heap.size->some b≠v.ownBlock:=fun b hb e=>by have:=(h.own.lt b e.symm).1;omega
 have hst:uE (·<B) (·<B) w1 w2:=fun b h1 h2=>⟨h1,hg.block b h2 (hne b (by omega))⟩
 refine ⟨by rw [jcq,List.flatten_append];exact hown,aO.app (aO.keep hst _ _ h.red) (aO.keep hst _ _ hes),?_,?_⟩
 ·intro r hr;rcases List.mem_append.1 hr with hr | hr
  ·exact h.len r hr
  ·exact hl2 r hr
 ·have hb:=h.aJ;exact ⟨hg.os.trans hb.os,hg.tape.trans hb.tape,hg.output.trans hb.output,Nat.le_trans hb.size hg.size,fun b hlt=>(hg.block b (Nat.lt_of_lt_of_le hlt hb.size) (hne b hlt)).trans (hb.block b hlt)⟩
end
mutual
theorem ah.Ox:∀ (x:ah),x.deep.length=x.sz
 | .mk _ _ _ _ _ _ _ ks=>by rw [ah.deep,ah.sz,List.length_cons,ah.mH ks];omega
theorem ah.mH:∀ (l:List ah),(ah.aM l).length=ah.aU l
 | []=>by rw [ah.aM,ah.aU];rfl
 | x::l=>by rw [ah.aM,ah.aU,jcq,ah.Ox x,ah.mH l]
end
theorem ah.FD {l:List ah} {k:Nat} {x:ah} (hx:l[k]?=some x):ah.aM (l.take (k+1))=ah.aM (l.take k)++x.deep:=by rw [List.take_add_one,hx,ah.qW];simp [ah.aM]
theorem ah.Dv (l:List ah) (k:Nat):ah.aU (l.take k)<=ah.aU l:=by have:=ah.Ar (l.take k) (l.drop k);rw [List.take_append_drop] at this;omega
def Qc (B:Nat) (w:World) (l:List ah) (v vi:Value) (wr:World):Prop:=∃ (k:Nat) (rows:List (List Value)),k<=l.length/\vi=.int .i64 k/\Row 51 10 B w ((ah.aM (l.take k)).map ah.d) rows v wr
theorem KR (n:Nat):∀ (l:List ah) (B:Nat) (v:Value) (w:World),ah.aU l<=n->n<=1000000->Rd (·<B) w (bC l) [v]->B<=w.heap.size -> Calls Tryz.prog 25 #[v] w fun e w'=>∃ v' rows,e=.returned v'/\Row 51 10 B w ((ah.aM l).map ah.d) rows v' w':=by
 induction n using Nat.strongRecOn with
 | _ n ih=>
  intro l B v w hn hnm hrd hB;obtain ⟨iI,Xq,NH,NJ,NK⟩:=info_parts Ow;obtain ⟨a,cap,hv,hs⟩:=Rd.aD hrd;obtain rfl:v=.slice a l.length cap:=by simpa using hv
  have hcap:l.length<=cap:=by simpa using hs.le
  have hmx:=hs.max;unfold maxLen at hmx;have HS:=hid hs;have IH:=hid ih;have R0:Hid (Qc B w l (.slice none 0 0) (.int .i64 0) w):=⟨0,[],Nat.zero_le _,rfl,by rw [List.take_zero,ah.aM];exact Row.nil _ _ _ _⟩;clear hs hv hrd ih;go_enter Tryz.func25,Tryz.ntmps25;go_wp2
  go_loopw [3,4] (fun v vi wr=>Qc B w l v vi wr) (fun _ i _=>l.length-(intOf i).toNat)
  case atStart=>exact R0.out
  case round=>
   clear R0;obtain ⟨k,rows,hk,rfl,hrow⟩:=hrel;obtain ⟨av,cv,RY⟩:=qP hrow.own;subst RY;by_cases hlt:k<l.length
   ·obtain ⟨x,hx⟩:∃ x,l[k]?=some x:=⟨_,List.getElem?_eq_getElem hlt⟩;obtain ⟨kd,t,d,ti,at_,ar,ci,ks⟩:=x;obtain ⟨g,off,vc,vp,va,vi,vk,rfl,hok,hbl,hc,hR⟩:=eF HS.out hx;have hsz:=ah.bD l k _ hx;rw [ah.sz] at hsz;obtain ⟨aa,na,ca,rfl⟩:=Rd.Dw hR.args;obtain ⟨ai,ni,nD,rfl⟩:=Rd.Dw hR.bM;obtain ⟨ac,nc,cc,rfl⟩:=Rd.Dw hR.at_.cls
    obtain ⟨ap,np,cp,rfl⟩:=Rd.Dw hR.at_.aH
    obtain ⟨ak,nk,ck,rfl⟩:=Rd.Dw hR.kids;have hgw:wr.heap[g]?=w.heap[g]?:=hrow.aJ.block g (by omega);obtain ⟨p0,p1,p2,p3,p4,p5,p6,p7,p8,p9⟩:=hc.at2 (w':=wr) hgw;have hrx:=ah.fK (ok:=(·<B)) (w:=w) kd t d ti hR;have VJ:((ah.aM (l.take k)).map ah.d).length<=1000000:=by rw [List.length_map,ah.mH];have:=ah.Dv l k;omega
    have hsn:=ah.Dv l (k+1);rw [ah.qm hx,ah.sz] at hsn;have hlk:((ah.aM (l.take k)).map ah.d).length=ah.aU (l.take k):=by rw [List.length_map,ah.mH]
    obtain ⟨L,hL⟩:∃ L,L=((ah.aM (l.take k)).map ah.d).length:=⟨_,rfl⟩;obtain ⟨ds,hds⟩:∃ ds,ds=(ah.aM (l.take k)).map ah.d:=⟨_,rfl⟩;rw [<- hds] at hrow VJ hlk hL ⊢;rw [<- hL];rw [<- hL] at hrow;have Zk:=hrow.own;rw [<- hL] at Zk;have Zl:=hid Zk;clear Zk;have xA:=hid hds;have aY:=hid hrow;have HR:=hid hR;have HRX:=hid hrx;have HX:=hid hx;have HC:=hid hc;have hwz:=hrow.aJ.size;have hLl:L<=1000000:=by omega
    have HL:=hid hL;clear hc hR hx hrx hds hrow hL;go_wp2_with (at_builtin;refine MJ _ rfl (.tmp 11) (.tmp 16) 22 rfl w.heap.size 51 iI _ 10 192 Tryz.underlying22 Xq NH NJ NK rfl (by decide) (.slice av L cv) L rows.flatten rfl (Zl.out.alloc _) (wr.heap.size+1) (some ⟨wr.heap.size,0,none⟩) 1 1 [.int .i64 kd,.string t,.string d,.string ti,.string at_.id,.slice ac nc cc,.slice ap np cp,.slice aa na ca,.slice ai ni nD,.slice ak nk ck] rfl ?g1 ?g2 ?g3 ?g4 ?g5 ?_)
    case g1=>exact ⟨rfl,fun _=>⟨_,rfl,by simp,Mi wr [.int .i64 kd,.string t,.string d,.string ti,.string at_.id,.slice ac nc cc,.slice ap np cp,.slice aa na ca,.slice ai ni nD,.slice ak nk ck] _⟩⟩
    case g2=>exact Rd.ru _ _ HRX.out
    case g3=>unfold maxLen;omega
    case g4=>omega
    case g5=>simp;omega
    intro v1 w1 hown1 hg1 _;obtain ⟨a1,c1,rfl⟩:=qP hown1;have Zm:Below wr.heap.size wr (wr.alloc (.cells #[.int .i64 kd,.string t,.string d,.string ti,.string at_.id,.slice ac nc cc,.slice ap np cp,.slice aa na ca,.slice ai ni nD,.slice ak nk ck] 51)):=(Below.refl _ _).alloc (Nat.le_refl _) _;have R8:Row 51 10 B w (ds++[ah.d (.mk kd t d ti at_ ar ci ks)]) (rows++[[.int .i64 kd,.string t,.string d,.string ti,.string at_.id,.slice ac nc cc,.slice ap np cp,.slice aa na ca,.slice ai ni nD,.slice ak nk ck]]) (.slice a1 (L+1) c1) w1:=by
     refine (aY.out.up (by omega) Zm).app hB (aO.one (Rd.keep (fun b h1 h2=>⟨h1,?_⟩) _ _ HRX.out)) (by simp) ?_ hg1
     ·exact (Zm.block b (by omega)).trans (aY.out.aJ.block b h2)
     ·rw [List.length_singleton,List.flatten_singleton,<- HL.out];exact hown1
    have hb1:=R8.aJ;have k9:w1.cell? ⟨g,off+k*10+9,none⟩=some (.slice ak nk ck):=(HC.out.at2 (w':=w1) (hb1.block g (by omega))).c9;have hz1:=hb1.size;have DC:=hid (IH.out (ah.aU ks) (by omega) ks B (.slice ak nk ck) w1 (Nat.le_refl _) (by omega) (Rd.keep (fun b h1 h2=>⟨h1,hb1.block b h2⟩) _ _ HR.out.kids) (by omega));have VK:=hid R8;clear hown1 hg1 Zm R8 hb1 aY p0 p1 p2 p3 p4 p5 p6 p7 p8 p9 hgw;go_wp2_with fail
    refine DC.out.mono ?_;rintro e w2 ⟨v2,bg,rfl,hrow2⟩;obtain ⟨a2,c2,rfl⟩:=qP hrow2.own;have hb2:=hrow2.aJ;have hz2:=hb2.size;have R9:=hid (VK.out.up (by omega) hb2);have LD:=hid hrow2;have hks:((ah.aM ks).map ah.d).length=ah.aU ks:=by rw [List.length_map,ah.mH]
    have Zn:=hid (Reads.D9 hrow2.own);have ON2:=hid (aO.ru _ _ hrow2.red);have hl1:(ds++[ah.d (.mk kd t d ti at_ ar ci ks)]).length=L+1:=by rw [jcq,List.length_singleton,<- HL.out]
    have Xv:=R9.out.own;rw [hl1] at Xv;obtain ⟨F,hF⟩:∃ F:List Value,F=(rows++[([.int .i64 kd,.string t,.string d,.string ti,.string at_.id,.slice ac nc cc,.slice ap np cp,.slice aa na ca,.slice ai ni nD,.slice ak nk ck]:List Value)]).flatten:=⟨_,rfl⟩;rw [<- hF] at Xv;have HF:=hid hF;clear hF;obtain ⟨M,hM⟩:∃ M,M=((ah.aM ks).map ah.d).length:=⟨_,rfl⟩;rw [<- hM] at Zn hks ⊢;have Zo:=hid Xv;have HM:=hid hM;have HL1:=hid hl1;have WH:=hid hks;clear Xv hM hl1 hrow2 hb2 DC VK hks;go_wp2_with (at_builtin;refine MJ _ rfl (.tmp 18) (.tmp 24) 22 rfl w.heap.size 51 iI _ 10 192 Tryz.underlying22 Xq NH NJ NK rfl (by decide) (.slice a1 (L+1) c1) (L+1) F rfl Zo.out w2.heap.size a2 M c2 bg.flatten rfl Zn.out ON2.out ?k3 ?k4 ?k5 ?_)
    case k3=>have:=WH.out;unfold maxLen;omega
    case k4=>have:=WH.out;have:=HL.out;omega
    case k5=>omega
    intro v3 w3 hown3 hg3 _;obtain ⟨a3,c3,rfl⟩:=qP hown3;have Zp:=hid (R9.out.app hB LD.out.red LD.out.len (by rw [HL1.out,<- HM.out,<- HF.out];exact hown3) hg3);clear hown3 hg3 R9 LD Zn ON2;go_wp2;go_roundw;case rel=>
     refine ⟨k+1,rows++[[.int .i64 kd,.string t,.string d,.string ti,.string at_.id,.slice ac nc cc,.slice ap np cp,.slice aa na ca,.slice ai ni nD,.slice ak nk ck]]++bg,by omega,by go_num,?_⟩;have h3:=Zp.out;rw [xA.out] at h3;rw [ah.FD HX.out,ah.deep,List.map_append,List.map_cons];simpa using h3
    case measure=>simp [intOf];omega
   ·have hkl:k=l.length:=by omega
    subst hkl;rw [List.take_length] at hrow ⊢;have aY:=hid hrow;clear hrow HS IH;go_wp2;go_ret;exact ⟨.slice av _ cv,rows,rfl,aY.out⟩
open Go.RowKit
open Go.RowKit
mutual
theorem au.LH:∀ (b:au),b.bC=b.inls
 | .mk k lv i t d ti a li ks=>by rw [au.bC,au.inls,au.ng ks]
theorem au.ng:∀ (l:List au),au.dx l=au.aV l
 | []=>by rw [au.dx,au.aV]
 | x::l=>by rw [au.dx,au.aV,au.LH x,au.ng l]
end
end Go.Proofs.YtclikfjalmcoaaaGreatDoor

