/- Contract of publisherref34.joined: neighbouring texts are joined. -/
import Derived.Test.YtclikfjalmcoaaaGreatDoorKHrA
set_option maxHeartbeats 8000000
set_option maxRecDepth 100000
open Go.Lib (hid)
namespace Go.Proofs.YtclikfjalmcoaaaGreatDoor
open List renaming setIfInBounds_toArray->jgq,set_cons_zero->jgx,set_cons_succ->jgz,getElem?_eq_getElem->jh0,length_append->jh6,map_append->ji2,take_of_length_le->ji4
open Go.RowKit
set_option linter.unusedVariables false
set_option linter.unusedSimpArgs false
theorem lX (l:List Nd) (k:Nat) (x:Nd) (h:l[k]?=some x):zG (l.take (k+1))=jI (zG (l.take k)) x:=by unfold zG;rw [List.take_add_one,h,List.foldl_append];rfl
theorem KS (out:List Nd) (x:Nd):(jI out x).length<=out.length+1:=by
 unfold jI;split
 ·split
  ·split
   ·rw [jh6,List.length_dropLast,List.length_singleton];omega
   ·simp
  ·simp
 ·simp
theorem wU (l:List Nd):∀ k,(zG (l.take k)).length<=k
 | 0=>by simp [zG]
 | k+1=>by
  have ih:=wU l k;by_cases hk:k<l.length
  ·rw [lX l k l[k] (jh0 hk)];have:=KS (zG (l.take k)) l[k];omega
  ·rw [ji4 (by omega)];rw [ji4 (by omega)] at ih;omega
theorem Nc (out:List Nd) (x:Nd) (n:Nat) (h:∀ y∈out,y.tx.size<=n) (hx:x.tx.size<=300):∀ y∈jI out x,y.tx.size<=n+300:=by
 have h0:∀ y∈out++[x],y.tx.size<=n+300:=by
  intro y hy;rcases List.mem_append.1 hy with hy | hy
  ·have:=h y hy;omega
  ·simp at hy;subst hy;omega
 unfold jI;split
 ·cases hg:out.getLast? with
  | none=>exact h0
  | some z=>
   simp only;split
   ·intro y hy;rcases List.mem_append.1 hy with hy | hy
    ·have:=h y (List.dropLast_subset _ hy);omega
    ·simp at hy;subst hy;have:=h z (List.mem_of_getLast? hg);show (z.tx++x.tx).size<=_;rw [ByteArray.size_append];omega
   ·exact h0
 ·exact h0
theorem Al (l:List Nd) (hl:∀ x∈l,x.tx.size<=300):∀ k,∀ y∈zG (l.take k),y.tx.size<=300*k
 | 0=>by simp [zG]
 | k+1=>by
  have ih:=Al l hl k;by_cases hk:k<l.length
  ·rw [lX l k l[k] (jh0 hk)];intro y hy;have:=Nc _ l[k] (300*k) ih (hl _ (List.getElem_mem hk)) y hy;omega
  ·rw [ji4 (by omega)];rw [ji4 (by omega)] at ih;intro y hy;have:=ih y hy;omega
theorem aP.init {P:Nat->Prop} {w:World}:∀ (ds:List D) (rows:List (List Value)) (d0:D) (r0:List Value),aP P w (ds++[d0]) (rows++[r0])->rows.length=ds.length->aP P w ds rows/\Rd P w d0 r0
 | [],rows,d0,r0,hr,hl=>by
  rw [List.eq_nil_of_length_eq_zero hl] at hr ⊢;obtain ⟨r,rs,e,h1,h2⟩:=hr.aJ;have e1:r=r0:=by simp at e;exact e.1.symm
  subst e1;exact ⟨aP.none,h1⟩
 | x::ds,[],d0,r0,hr,hl=>by simp at hl
 | x::ds,r::rows,d0,r0,hr,hl=>by
  obtain ⟨r',rs,e,h1,h2⟩:=hr.aJ;have e':r'=r/\rs=rows++[r0]:=by simp at e;exact ⟨e.1.symm,e.2.symm⟩
  obtain ⟨rfl,rfl⟩:=e';obtain ⟨h3,h4⟩:=aP.init ds rows d0 r0 h2 (by simpa using hl);exact ⟨aP.cons h1 h3,h4⟩
section
variable {T:TypeId} {U:Nat} {ok:Nat->Prop} {w0 w:World} {ds:List D} {rows:List (List Value)} {v:Value}
theorem aI.iw {d:D} (h:aI T 4 ok U w0 (ds++[d]) rows v w):∃ rows' a0 a1 a2 a3,rows=rows'++[[a0,a1,a2,a3]]/\Rd (fun b=>(ok b\/w0.heap.size<=b)/\v.ownBlock≠some b/\b<U) w d [a0,a1,a2,a3]:=by
 have hl:=h.red.len;rw [jh6,List.length_singleton] at hl;have hne:rows≠[]:=fun e=>by rw [e] at hl;simp at hl
 obtain ⟨rows',r,rfl⟩:∃ rows' r,rows=rows'++[r]:=⟨_,_,(List.dropLast_concat_getLast hne).symm⟩;have hr:=h.len r (by simp)
 match r,hr with
 | [a0,a1,a2,a3],_=>exact ⟨rows',a0,a1,a2,a3,rfl,(aP.init ds rows' d _ h.red (by simp at hl;exact hl)).2⟩
theorem aI.set1 {g n c j:Nat} {d0 d1:D} {r0:List Value} {u:Value} (h:aI T 4 ok U w0 (ds++[d0]) (rows++[r0]) (.slice (some ⟨g,0,none⟩) (n+1) c) w) (hn:ds.length=n) (hj:j<4) (hd:Rd (fun b=>(ok b\/w0.heap.size<=b)/\g≠b/\b<U) w d1 (r0.set j u)):aI T 4 ok U w0 (ds++[d1]) (rows++[r0.set j u]) (.slice (some ⟨g,0,none⟩) (n+1) c) (w.setCell ⟨g,n*4+j,none⟩ u):=by
 have hl:rows.length=n:=by have:=h.red.len;simp at this;omega
 have hfl:rows.flatten.length=n*4:=by rw [iJ 4 rows (fun r hr=>h.len r (by simp [hr])),hl]
 have hown:=h.own;have e1:∀ r:List Value,(rows++[r]).flatten=rows.flatten++r:=fun r=>by simp
 rw [e1,jh6,List.length_singleton,hn] at hown;have o4:=(hown.stored (n*4+j) u).1;rw [List.set_append_right _ _ (by omega),hfl,Nat.add_sub_cancel_left] at o4;have hb:∀ b,b≠g->(w.setCell ⟨g,n*4+j,none⟩ u).heap[b]?=w.heap[b]?:=fun b hb=>Below.heap_setCell w ⟨g,n*4+j,none⟩ u b hb
 have hg0:w0.heap.size<=g:=(h.own.lt g rfl).1;refine ⟨?_,?_,?_,?_,h.oU,h.Er,by simpa [World.setCell] using h.GK⟩
 ·rw [e1,jh6,List.length_singleton,hn];exact o4
 ·have hA:=(aP.init ds rows d0 r0 h.red (by omega)).1;exact aP.app (aP.keep (fun b hb' _=>⟨hb',hb b (fun e=>by subst e;exact hb'.2.1 rfl)⟩) _ _ hA) (aP.one (Rd.keep (fun b hb' _=>⟨⟨hb'.1,fun e=>hb'.2.1 (by simpa [Value.ownBlock] using e),hb'.2.2⟩,hb b (fun e=>hb'.2.1 e.symm)⟩) _ _ hd))
 ·intro r hr;rcases List.mem_append.1 hr with hr | hr
  ·exact h.len r (by simp [hr])
  ·simp at hr;subst hr;rw [List.length_set];exact h.len r0 (by simp)
 ·exact h.aL.setCell (p:=⟨g,n*4+j,none⟩) hg0 u
end
def um (m0:Nat) (w:World) (L:List Nd) (v vi:Value) (wr:World):Prop:=
 ∃ (k:Nat) (rows:List (List Value)),k<=L.length/\vi=.int .i64 k/\aI 43 4 (fun b=>m0<=b/\b<w.heap.size) wr.heap.size w ((zG (L.take k)).map Nd.d) rows v wr
def Nf (m0:Nat) (w:World) (L:List Nd) (e:Ending) (w':World):Prop:=
 ∃ rows v,e=.returned v/\aI 43 4 (fun b=>m0<=b/\b<w.heap.size) w'.heap.size w ((zG L).map Nd.d) rows v w'
theorem Ez (m0:Nat) (L:List Nd) (v:Value) (w:World) (hrd:Rd (m0<=·) w (bS L) [v]) (hL:L.length<=1000000) (hx3:∀ x∈L,x.tx.size<=300) : Calls Tryz.prog 104 #[v] w (Nf m0 w L):=by
 obtain ⟨iN,qG,fZ,gq,gu⟩:=info_parts lW;obtain ⟨a,cap,hv,hs⟩:=Rd.aB hrd;obtain rfl:v=.slice a L.length cap:=by simpa using hv
 have hcap:L.length<=cap:=by simpa using hs.le
 have hmx:=hs.max;unfold maxLen at hmx;have HS:=hid hs;have HX3:=hid hx3;have R0:Hid (um m0 w L (.slice none 0 0) (.int .i64 0) w):=⟨0,[],Nat.zero_le _,rfl,aI.nil _ _ _ _⟩;clear hs hv hrd hx3;go_enter Tryz.func104,Tryz.ntmps104;go_wp2
 go_loopw [3,4] (fun v vi wr=>um m0 w L v vi wr) (fun _ i _=>L.length-(intOf i).toNat)
 case atStart=>exact R0.out
 case round=>
  clear R0;obtain ⟨k,rows,hk,rfl,hrow⟩:=hrel;obtain ⟨Out,hOut⟩:∃ Out,Out=zG (L.take k):=⟨_,rfl⟩;have hol:Out.length<=k:=by rw [hOut];exact wU L k
  have hot:∀ y∈Out,y.tx.size<=300*k:=by rw [hOut];exact Al L HX3.out k
  rw [<- hOut] at hrow;have hbel:=hrow.aL;by_cases hlt:k<L.length
  ·obtain ⟨x,hx⟩:∃ x,L[k]?=some x:=⟨_,jh0 hlt⟩;have hst:=lX L k x hx;rw [<- hOut] at hst;have hxt:=HX3.out x (List.mem_of_getElem? hx);obtain ⟨nm,tx,XA,XK⟩:=x;have hxt:tx.size<=300:=hxt;obtain ⟨b,off,va,vk,rfl,hok,hbl,c0,c1,c2,c3,hR⟩:=nQ HS.out hx;obtain ⟨aA,nA,cA,rfl⟩:=Rd.ah hR.at_
   obtain ⟨aK,nK,cK,rfl⟩:=Rd.ah hR.ks;have e0:wr.cell? ⟨b,off+k*4,none⟩=some (.string nm):=(hbel.cell (p:=⟨b,_,none⟩) hbl).trans c0;have e1:wr.cell? ⟨b,off+k*4+1,none⟩=some (.string tx):=(hbel.cell (p:=⟨b,_,none⟩) hbl).trans c1;have e2:wr.cell? ⟨b,off+k*4+2,none⟩=some (.slice aA nA cA):=(hbel.cell (p:=⟨b,_,none⟩) hbl).trans c2;have e3:wr.cell? ⟨b,off+k*4+3,none⟩=some (.slice aK nK cK):=(hbel.cell (p:=⟨b,_,none⟩) hbl).trans c3;have hwz:=hbel.size;have Yk:Hid (Rd (fun b'=>(m0<=b'/\b'<w.heap.size)\/wr.heap.size<=b') wr (Nd.mk nm tx XA XK).d [.string nm,.string tx,.slice aA nA cA,.slice aK nK cK]):=
    Rd.keep (fun b' (h1:m0<=b') h2=>⟨.inl ⟨h1,h2⟩,hbel.block b' h2⟩) _ _ (Nd.fJ nm tx hR)
   obtain ⟨n,hn⟩:∃ n,n=(Out.map Nd.d).length:=⟨_,rfl⟩;obtain ⟨av,cv,rfl,hcv,jaz⟩:=hrow.cap hn.symm;unfold maxLen at jaz;have hnk:n<=k:=by rw [hn,List.length_map];exact hol
   have HN:=hid hn.symm;have Vf:=hid hot;have HST:=hid hst;have aV:=hid hrow;have qe:=Ms nm;clear hst hot hOut hn hR c0 c1 c2 c3 hok hx hol hrow hbel;by_cases hA:aT nm=false\/n=0\/∃ pG y,Out=pG++[y]/\aT y.nm=false
   ·have HJ:Hid ((zG (L.take (k+1))).map Nd.d=Out.map Nd.d++[(Nd.mk nm tx XA XK).d]):=by
     show _=_;rw [HST.out];have:jI Out (.mk nm tx XA XK)=Out++[.mk nm tx XA XK]:=by
      unfold jI;rcases hA with h | h | ⟨pG,y,rfl,h⟩
      ·rw [if_neg (show ¬ aT (Nd.mk nm tx XA XK).nm=true by show ¬ aT nm=true;rw [h];simp)]
      ·have:Out=[]:=by
        have h9:=HN.out;rw [h,List.length_map] at h9;exact List.eq_nil_of_length_eq_zero h9
       subst this;split<;>rfl
      ·split
       ·rw [List.getLast?_append];simp only [List.getLast?_singleton,Option.some_or];rw [if_neg (by rw [h];simp)]
       ·rfl
     rw [this,ji2];rfl
    have PUT:Hid (n<=10000000):=by show _<=_;omega
    rcases hA with h | h | ⟨pG,y,hOy,h⟩
    ·have q1:nm.toList.isEmpty=false:=by rw [qe];exact h
     clear h qe HST Vf;go_wp2_with (at_builtin;refine MZ (n:=n) rfl _ _ 34 rfl iN _ 80 Tryz.underlying34 qG fZ gq gu rfl (by decide) aV.out (fun b' hb'=>hb'.2) (Nd.mk nm tx XA XK).d [.string nm,.string tx,.slice aA nA cA,.slice aK nK cK] Yk.out rfl Ev HN.out PUT.out (by decide) rfl rfl ?_)
     intro a' c' w5 aH hg5;have HF:Hid (um m0 w L (.slice a' (n+1) c') (.int .i64 ((k+1:Nat):Int)) w5):=by rw [<- HJ.out] at aH;exact ⟨k+1,_,by omega,rfl,aH⟩
     clear aH hg5;go_wp2;go_roundw;case rel=>exact HF.out
     case measure=>simp [intOf];omega
    ·subst h;have je4:=aV;cases hne:aT nm
     ·have q1:nm.toList.isEmpty=false:=by rw [qe];exact hne
      clear hne qe HST Vf;go_wp2_with (at_builtin;refine MZ (n:=0) rfl _ _ 34 rfl iN _ 80 Tryz.underlying34 qG fZ gq gu rfl (by decide) aV.out (fun b' hb'=>hb'.2) (Nd.mk nm tx XA XK).d [.string nm,.string tx,.slice aA nA cA,.slice aK nK cK] Yk.out rfl Ev HN.out PUT.out (by decide) rfl rfl ?_)
      intro a' c' w5 aH hg5;have HF:Hid (um m0 w L (.slice a' (0+1) c') (.int .i64 ((k+1:Nat):Int)) w5):=by rw [<- HJ.out] at aH;exact ⟨k+1,_,by omega,rfl,aH⟩
      clear aH hg5;go_wp2;go_roundw;case rel=>exact HF.out
      case measure=>simp [intOf];omega
     ·have q1:nm.toList.isEmpty=true:=by rw [qe];exact hne
      have q1':nm.toList=[]:=by rw [List.isEmpty_iff] at q1;exact q1
      clear hne qe HST Vf;go_wp2_with (at_builtin;refine MZ (n:=0) rfl _ _ 34 rfl iN _ 80 Tryz.underlying34 qG fZ gq gu rfl (by decide) aV.out (fun b' hb'=>hb'.2) (Nd.mk nm tx XA XK).d [.string nm,.string tx,.slice aA nA cA,.slice aK nK cK] Yk.out rfl Ev HN.out PUT.out (by decide) rfl rfl ?_)
      intro a' c' w5 aH hg5;have HF:Hid (um m0 w L (.slice a' (0+1) c') (.int .i64 ((k+1:Nat):Int)) w5):=by rw [<- HJ.out] at aH;exact ⟨k+1,_,by omega,rfl,aH⟩
      clear aH hg5;go_wp2;go_roundw;case rel=>exact HF.out
      case measure=>simp [intOf];omega
    ·cases hne:aT nm
     ·have q1:nm.toList.isEmpty=false:=by rw [qe];exact hne
      clear hne qe HST Vf h hOy;go_wp2_with (at_builtin;refine MZ (n:=n) rfl _ _ 34 rfl iN _ 80 Tryz.underlying34 qG fZ gq gu rfl (by decide) aV.out (fun b' hb'=>hb'.2) (Nd.mk nm tx XA XK).d [.string nm,.string tx,.slice aA nA cA,.slice aK nK cK] Yk.out rfl Ev HN.out PUT.out (by decide) rfl rfl ?_)
      intro a' c' w5 aH hg5;have HF:Hid (um m0 w L (.slice a' (n+1) c') (.int .i64 ((k+1:Nat):Int)) w5):=by rw [<- HJ.out] at aH;exact ⟨k+1,_,by omega,rfl,aH⟩
      clear aH hg5;go_wp2;go_roundw;case rel=>exact HF.out
      case measure=>simp [intOf];omega
     ·have q1:nm.toList.isEmpty=true:=by rw [qe];exact hne
      have q1':nm.toList=[]:=by rw [List.isEmpty_iff] at q1;exact q1
      have hrw:=aV.out;rw [hOy,ji2] at hrw;obtain ⟨yn,yt,yA,yK⟩:=y;have h:aT yn=false:=h;obtain ⟨rows',a0,a1,a2,a3,rfl,Yl⟩:=aI.iw (ds:=pG.map Nd.d) (d:=(Nd.mk yn yt yA yK).d) hrw;obtain ⟨va',vk',he,hyR⟩:=Nd.open_ Yl;obtain ⟨rfl,rfl,rfl,rfl⟩:a0=.string yn/\a1=.string yt/\a2=va'/\a3=vk':=by simp at he;exact he
      have hn9:=HN.out;rw [hOy] at hn9;obtain ⟨n1,rfl⟩:∃ n1,n=n1+1:=⟨n-1,by simp at hn9;omega⟩;have hn1:(pG.map Nd.d).length=n1:=by simp at hn9 ⊢;omega
      obtain ⟨g,cap',hgv,-⟩:=fD hrw.own (by simp);obtain ⟨rfl,rfl⟩:av=some ⟨g,0,none⟩/\cv=cap':=by injection hgv with h1 h2 h3;exact ⟨h1,h3⟩
      obtain ⟨y0,y1,y2,y3,yf⟩:=aI.jZ (ds:=pG.map Nd.d) hrw hn1;have q2:yn.toList.isEmpty=false:=by rw [Ms];exact h
      have t0:(0:Int)<(n1:Int)+1:=by omega
      have t1:(0:Int)<=(n1:Int):=by omega
      have t2:(n1:Int)<(n1:Int)+1:=by omega
      have t3:n1<n1+1:=by omega
      have t5:(n1:Int)+1<=9223372036854775807:=by omega
      clear hne qe HST Vf h hOy hrw he hyR Yl hgv hn9 hn1;go_wp2_with (at_builtin;refine MZ (n:=n1+1) rfl _ _ 34 rfl iN _ 80 Tryz.underlying34 qG fZ gq gu rfl (by decide) aV.out (fun b' hb'=>hb'.2) (Nd.mk nm tx XA XK).d [.string nm,.string tx,.slice aA nA cA,.slice aK nK cK] Yk.out rfl Ev HN.out PUT.out (by decide) rfl rfl ?_)
      intro a' c' w5 aH hg5;have HF:Hid (um m0 w L (.slice a' (n1+1+1) c') (.int .i64 ((k+1:Nat):Int)) w5):=by rw [<- HJ.out] at aH;exact ⟨k+1,_,by omega,rfl,aH⟩
      clear aH hg5;go_wp2;go_roundw;case rel=>exact HF.out
      case measure=>simp [intOf];omega
   ·have hne:aT nm=true:=by cases h:aT nm;exact absurd (.inl h) hA;rfl
    have hn0:n≠0:=fun h=>hA (.inr (.inl h))
    have Ym:Out≠[]:=fun h=>by have h9:=HN.out;rw [h] at h9;simp at h9;omega
    obtain ⟨pG,y,rfl⟩:∃ pG y,Out=pG++[y]:=⟨_,_,(List.dropLast_concat_getLast Ym).symm⟩;have hye:aT y.nm=true:=by cases h:aT y.nm;exact absurd (.inr (.inr ⟨pG,y,rfl,h⟩)) hA;rfl
    have hyt:=Vf.out y (by simp);have hj:jI (pG++[y]) (.mk nm tx XA XK)=pG++[.mk y.nm (y.tx++tx) y.at_ y.ks]:=by unfold jI;rw [if_pos (show aT (Nd.mk nm tx XA XK).nm=true from hne),List.getLast?_append];simp only [List.getLast?_singleton,Option.some_or];rw [if_pos hye,List.dropLast_concat];rfl
    obtain ⟨yn,yt,yA,yK⟩:=y;dsimp only [Nd.nm,Nd.tx,Nd.at_,Nd.ks] at hye hyt hj;have hrw:=aV.out;rw [ji2] at hrw;obtain ⟨rows',a0,a1,a2,a3,rfl,Yl⟩:=aI.iw (ds:=pG.map Nd.d) (d:=(Nd.mk yn yt yA yK).d) hrw;obtain ⟨va',vk',he,hyR⟩:=Nd.open_ Yl;obtain ⟨rfl,rfl,rfl,rfl⟩:a0=.string yn/\a1=.string yt/\a2=va'/\a3=vk':=by simp at he;exact he
    obtain ⟨n1,rfl⟩:∃ n1,n=n1+1:=⟨n-1,by omega⟩;have hn1:(pG.map Nd.d).length=n1:=by have h9:=HN.out;simp at h9 ⊢;omega
    obtain ⟨g,cap',hgv,-⟩:=fD hrw.own (by simp);obtain ⟨rfl,rfl⟩:av=some ⟨g,0,none⟩/\cv=cap':=by injection hgv with h1 h2 h3;exact ⟨h1,h3⟩
    obtain ⟨y0,y1,y2,y3,yf⟩:=aI.jZ (ds:=pG.map Nd.d) hrw hn1;have hgl:=hrw.own.lt g rfl;have HJ:Hid ((zG (L.take (k+1))).map Nd.d=pG.map Nd.d++[(Nd.mk yn (yt++tx) yA yK).d]):=by show _=_;rw [HST.out,hj,ji2];rfl
    have Yn:=hid (hrw.set1 (j:=1) (u:=.string (yt++tx)) hn1 (by decide) (d1:=(Nd.mk yn (yt++tx) yA yK).d) (by
     show Rd _ _ _ [.string yn,.string (yt++tx),_,_];refine Nd.fJ yn (yt++tx) (hyR.keep (fun b' hb' _=>⟨⟨hb'.1,fun e=>hb'.2.1 (by rw [e];rfl),hb'.2.2⟩,rfl⟩))))
    have q1:nm.toList.isEmpty=true:=by rw [qe];exact hne
    have q2:yn.toList.isEmpty=true:=by rw [Ms];exact hye
    have q1':nm.toList=[]:=by rw [List.isEmpty_iff] at q1;exact q1
    have q2':yn.toList=[]:=by rw [List.isEmpty_iff] at q2;exact q2
    have hadd:∀ w:World,(Op.stringOp .add yt tx).run Tryz.prog w=.ok (.string (yt++tx)) w:=fun w=>run_string_add_sum w _ _ (by omega)
    have t0:(0:Int)<(n1:Int)+1:=by omega
    have t1:(0:Int)<=(n1:Int):=by omega
    have t2:(n1:Int)<(n1:Int)+1:=by omega
    have t3:n1<n1+1:=by omega
    have t4:(0:Int)<((n1+1:Nat):Int):=by omega
    have t5:(n1:Int)+1<=9223372036854775807:=by omega
    have t7:(k:Int)<(L.length:Int):=by omega
    have t8:(0:Int)<=(k:Int):=by omega
    clear hne hye hyt hj he hyR Yl hgv Ym hA hn0 aV Vf HST qe;go_upto_region 7 with (fail)
    have t9:IntKind.i64.wrap ((n1:Int)+1-1)=(n1:Int):=by
     have e:(n1:Int)+1-1=(n1:Int):=by omega
     rw [e];exact IntWalk.i64_in _ ⟨by omega,by omega⟩
    have t10:IntKind.i64.wrap (n1:Int)=(n1:Int):=IntWalk.i64_in _ ⟨by omega,by omega⟩;have S0:wr.drew.cell? ⟨g,n1*4+1,none⟩=some (.string yt)/\wr.drew.cell? ⟨b,off+k*4+1,none⟩=some (.string tx):=⟨y1,e1⟩;refine Ti 17 (fun w'=>w'.cell? ⟨g,n1*4+1,none⟩=some (.string yt)/\w'.cell? ⟨b,off+k*4+1,none⟩=some (.string tx)) (by kernel_rfl) S0 ?_;intro hH;refine jA (i:=0) (v:=?_) rfl (by kernel_rfl) (by kernel_rfl) (by kernel_rfl) (by kernel_rfl) (fun _ _ _ h=>h) hH (Or.inl ⟨by rfl,?_⟩) ?_;rotate_left
    ·(intro wv hSw;(try dsimp only at hSw);go_simp;try with_reducible rfl)
    try simp only [Act.put,jgq,jgx,jgz]
    refine jA (i:=1) (v:=?_) rfl (by kernel_rfl) (by kernel_rfl) (by kernel_rfl) (by kernel_rfl) (fun _ _ _ h=>h) hH (Or.inl ⟨by rfl,?_⟩) ?_;rotate_left
    ·(intro wv hSw;(try dsimp only at hSw);go_simp;try with_reducible rfl)
    try simp only [Act.put,jgq,jgx,jgz]
    refine jA (i:=2) (v:=?_) rfl (by kernel_rfl) (by kernel_rfl) (by kernel_rfl) (by kernel_rfl) (fun _ _ _ h=>h) hH (Or.inl ⟨by rfl,?_⟩) ?_;rotate_left
    ·(intro wv hSw;(try dsimp only at hSw);go_simp;try with_reducible rfl)
    try simp only [Act.put,jgq,jgx,jgz]
    refine jA (i:=3) (v:=?_) rfl (by kernel_rfl) (by kernel_rfl) (by kernel_rfl) (by kernel_rfl) (fun _ _ _ h=>h) hH (Or.inl ⟨by rfl,?_⟩) ?_;rotate_left
    ·(intro wv hSw;(try dsimp only at hSw);go_simp;try with_reducible rfl)
    try simp only [Act.put,jgq,jgx,jgz]
    refine jA (i:=4) (v:=?_) rfl (by kernel_rfl) (by kernel_rfl) (by kernel_rfl) (by kernel_rfl) (fun _ _ _ h=>h) hH (Or.inl ⟨by rfl,?_⟩) ?_;rotate_left
    ·(intro wv hSw;(try dsimp only at hSw);go_simp;try with_reducible rfl)
    try simp only [Act.put,jgq,jgx,jgz]
    refine jA (i:=5) (v:=?_) rfl (by kernel_rfl) (by kernel_rfl) (by kernel_rfl) (by kernel_rfl) (fun _ _ _ h=>h) hH (Or.inl ⟨by rfl,?_⟩) ?_;rotate_left
    ·(intro wv hSw;(try dsimp only at hSw);go_simp;try with_reducible rfl)
    try simp only [Act.put,jgq,jgx,jgz]
    refine jA (i:=6) (v:=?_) rfl (by kernel_rfl) (by kernel_rfl) (by kernel_rfl) (by kernel_rfl) (fun _ _ _ h=>h) hH (Or.inl ⟨by rfl,?_⟩) ?_;rotate_left
    ·(intro wv hSw;(try dsimp only at hSw);go_simp;try with_reducible rfl)
    try simp only [Act.put,jgq,jgx,jgz]
    refine jA (i:=7) (v:=?_) rfl (by kernel_rfl) (by kernel_rfl) (by kernel_rfl) (by kernel_rfl) (fun _ _ _ h=>h) hH (Or.inl ⟨by rfl,?_⟩) ?_;rotate_left
    ·(intro wv hSw;(try dsimp only at hSw);go_simp;try with_reducible rfl)
    try simp only [Act.put,jgq,jgx,jgz]
    refine jA (i:=8) (v:=?_) rfl (by kernel_rfl) (by kernel_rfl) (by kernel_rfl) (by kernel_rfl) (fun _ _ _ h=>h) hH (Or.inl ⟨by rfl,?_⟩) ?_;rotate_left
    ·(intro wv hSw;(try dsimp only at hSw);go_simp;try with_reducible rfl)
    try simp only [Act.put,jgq,jgx,jgz]
    refine jA (i:=9) (v:=?_) rfl (by kernel_rfl) (by kernel_rfl) (by kernel_rfl) (by kernel_rfl) (fun _ _ _ h=>h) hH (Or.inl ⟨by rfl,?_⟩) ?_;rotate_left
    ·(intro wv hSw;(try dsimp only at hSw);go_simp;try with_reducible rfl)
    try simp only [Act.put,jgq,jgx,jgz]
    refine jA (i:=10) (v:=?_) rfl (by kernel_rfl) (by kernel_rfl) (by kernel_rfl) (by kernel_rfl) (fun _ _ _ h=>h) hH (Or.inl ⟨by rfl,?_⟩) ?_;rotate_left
    ·(intro wv hSw;(try dsimp only at hSw);go_simp;try with_reducible rfl)
    try simp only [Act.put,jgq,jgx,jgz]
    refine jA (i:=11) (v:=?_) rfl (by kernel_rfl) (by kernel_rfl) (by kernel_rfl) (by kernel_rfl) (fun _ _ _ h=>h) hH (Or.inl ⟨by rfl,?_⟩) ?_;rotate_left
    ·(intro wv hSw;(try dsimp only at hSw);go_simp;try with_reducible rfl)
    try simp only [Act.put,jgq,jgx,jgz]
    refine jA (i:=12) (v:=?_) rfl (by kernel_rfl) (by kernel_rfl) (by kernel_rfl) (by kernel_rfl) (fun _ _ _ h=>h) hH (Or.inl ⟨by rfl,?_⟩) ?_;rotate_left
    ·(intro wv hSw;(try dsimp only at hSw);go_simp;try with_reducible rfl)
    try simp only [Act.put,jgq,jgx,jgz]
    refine jA (i:=13) (v:=?_) rfl (by kernel_rfl) (by kernel_rfl) (by kernel_rfl) (by kernel_rfl) (fun _ _ _ h=>h) hH (Or.inl ⟨by rfl,?_⟩) ?_;rotate_left
    ·(intro wv hSw;(try dsimp only at hSw);go_simp;try with_reducible rfl)
    try simp only [Act.put,jgq,jgx,jgz]
    refine jA (i:=14) (v:=?_) rfl (by kernel_rfl) (by kernel_rfl) (by kernel_rfl) (by kernel_rfl) (fun _ _ _ h=>h) hH (Or.inl ⟨by rfl,?_⟩) ?_;rotate_left
    ·(intro wv hSw;(try dsimp only at hSw);go_simp;try with_reducible rfl)
    try simp only [Act.put,jgq,jgx,jgz]
    refine jA (i:=15) (v:=?_) rfl (by kernel_rfl) (by kernel_rfl) (by kernel_rfl) (by kernel_rfl) (fun _ _ _ h=>h) hH (Or.inl ⟨by rfl,?_⟩) ?_;rotate_left
    ·(intro wv hSw;(try dsimp only at hSw);go_simp;try with_reducible rfl)
    try simp only [Act.put,jgq,jgx,jgz]
    refine jA (i:=16) (v:=?_) rfl (by kernel_rfl) (by kernel_rfl) (by kernel_rfl) (by kernel_rfl) (fun _ _ _ h=>h) hH (Or.inl ⟨by rfl,?_⟩) ?_;rotate_left
    ·(intro wv hSw;(try dsimp only at hSw);go_simp;try with_reducible rfl)
    try simp only [Act.put,jgq,jgx,jgz]
    refine lY (i:=17) rfl (by kernel_rfl) (fun KQ hK=>?_);go_simp;refine hK.out _ _ (fun h=>absurd rfl h) (fun _=>?_);clear hK KQ;refine Tj (by kernel_rfl) ?_ _;obtain ⟨w5,G7⟩:∃ w5,w5=wr.drew.setCell ⟨g,n1*4+1,none⟩ (.string (yt++tx)):=⟨_,rfl⟩;have HF:Hid (um m0 w L (.slice (some ⟨g,0,none⟩) (n1+1) cv) (.int .i64 ((k+1:Nat):Int)) w5):=by
     have h1:=Yn.out.drew.top;have e5:(wr.setCell ⟨g,n1*4+1,none⟩ (.string (yt++tx))).drew=w5:=by rw [G7];rfl
     rw [e5,<- HJ.out] at h1;exact ⟨k+1,_,by omega,rfl,h1⟩
    have Yo:(wr.setCell ⟨g,n1*4+1,none⟩ (.string (yt++tx))).drew=w5:=by rw [G7];rfl
    (first | rw [<- G7] | rw [Yo])
    clear G7 Yo Yn y0 y1 y2 y3 yf q1 q2 q1' q2' S0 hH t9 t10;go_wp2;go_roundw;case rel=>exact HF.out
    case measure=>simp [intOf];omega
  ·have hkl:k=L.length:=by omega
   obtain ⟨n,hn⟩:∃ n,n=(Out.map Nd.d).length:=⟨_,rfl⟩;obtain ⟨av,cv,rfl,-,-⟩:=hrow.cap hn.symm;have HF:Hid (Nf m0 w L (.returned (.slice av n cv)) wr):=⟨rows,_,rfl,by rw [hOut,hkl,List.take_length] at hrow;exact hrow⟩;clear hrow hot hol hn;go_wp2;go_ret;exact HF.out
end Go.Proofs.YtclikfjalmcoaaaGreatDoor

