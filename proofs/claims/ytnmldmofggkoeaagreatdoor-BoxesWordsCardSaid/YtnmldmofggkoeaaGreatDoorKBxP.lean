/- Contract of (*maker).leaf. What the makers of boxes leave, put together; the bounds that their walks ask. -/
import Derived.Test.YtnmldmofggkoeaaGreatDoorKBxB
set_option maxHeartbeats 4000000
set_option maxRecDepth 100000
open Go.Lib (hid)
namespace Go.Proofs.YtnmldmofggkoeaaGreatDoor
open Nat renaming le_trans->YJ
open Go renaming World->Zu,Value->Zw
open Go.RowKit
set_option linter.unusedVariables false
set_option linter.unusedSimpArgs false
def Dp (m:Nat) (W:Int) (st:St) (vp:Zw) (N:Nat) (v:Zw) (x:Bx) (L:List Bx) (own:List ByteArray) (w:Zu) (e:Ending) (w':Zu):Prop:=
 e=.returned v/\∃ va,aI 37 6 (fun b=>vp.ownBlock=some b) N w'.heap.size ((jZ st (x::L) own).1.map Bx.d) (xO x.text x.ht (st.groups:Int) x.keep x.fl va::L.map (fun y=>bH (dI st.groups y))) v w' /\
  w'.ownsRow m 9 1 va (st.pend++own).length ((st.pend++own).map Value.string)/\(∀ g,va.ownBlock=some g->vp.ownBlock=some g\/w.heap.size<=g) /\
  nQ m W (jZ st (x::L) own).2 (.slice none 0 0) w'/\aO (fun b=>b=m\/vp.ownBlock=some b\/v.ownBlock=some b) w w'
theorem Dq (m:Nat) (W:Int) (st:St) (vp v vo:Zw) (w:Zu) (hm:nQ m W st vp w) (hf:st.lH=true) : Calls Tryz.prog 64 #[.pointer (some ⟨m,0,none⟩),v,vo] w fun e w'=>e=.returned v/\w=w':=by have c4:=hm.cb.cell 4 _ rfl;rw [hf] at c4;clear hm hf;go_enter Tryz.func64,Tryz.ntmps64;go_wp2;go_ret;exact ⟨rfl,rfl⟩
def j6 (g k:Nat) (L:List Bx):List Bx:=(L.take k).map (dI g)++L.drop k
theorem qZ (g k:Nat) (L:List Bx) (x:Bx) (h:L[k]?=some x):(j6 g k L).set k (dI g x)=j6 g (k+1) L:=by
 have hk:=(List.getElem?_eq_some_iff.1 h);obtain ⟨hk,e⟩:=hk;unfold j6;have h1:L.drop k=x::L.drop (k+1):=by rw [<- e];exact List.drop_eq_getElem_cons hk
 rw [h1,List.set_append_right _ _ (by simp;omega),List.take_add_one,h,List.map_append];simp [Nat.min_eq_left (Nat.le_of_lt hk)]
theorem F8 (g k:Nat) (L:List Bx) (x:Bx) (h:L[k]?=some x):(j6 g k L)[k]?=some x:=by have hk:=(List.getElem?_eq_some_iff.1 h).1;unfold j6;rw [List.getElem?_append_right (by simp;omega)];simp [Nat.min_eq_left (Nat.le_of_lt hk),h]
theorem Dt (g:Nat) (L:List Bx):j6 g L.length L=L.map (dI g):=by unfold j6;simp
theorem Du (g:Nat) (x:Bx):bH (dI g x)=(bH x).set 2 (.int .i64 (g:Int)):=rfl
def Iq (m:Nat) (N:Nat) (g:Nat) (L:List Bx) (v:Zw) (w:Zu) (vi:Zw) (wr:Zu):Prop:=
 ∃ k:Nat,k<=L.length/\vi=.int .i64 k/\aI 37 6 (fun _=>False) N wr.heap.size ((j6 g k L).map Bx.d) ((j6 g k L).map bH) v wr/\aO (fun b=>v.ownBlock=some b) w wr
def PY (w5:Zu) (m g:Nat) (va:Zw) (gr ct:Int):Zu:=
 (((w5.setCell ⟨g,5,none⟩ va).setCell ⟨m,2,none⟩ (.slice none 0 0)).setCell ⟨m,1,none⟩ (.int .i64 gr)).setCell ⟨m,3,none⟩ (.int .i64 ct)
theorem Ke {m g n cap:Nat} {W:Int} {st:St} {vp va:Zw} {N:Nat} {x:Bx} {L:List Bx} {own:List ByteArray} {w wr w5:Zu} (hm:nQ m W st vp w) (hf:st.lH=false) (LY:m<N) (F9:∀ b,vp.ownBlock=some b->b<N) (hr:aI 37 6 (fun _=>False) N wr.heap.size (((x::L).map (dI st.groups)).map Bx.d) (((x::L).map (dI st.groups)).map bH) (.slice (some ⟨g,0,none⟩) n cap) wr) (hn:n=(x::L).length) (han:x.an=[]) (V4:∀ y∈L,y.an=[]) (hF:aO (fun b=>(Value.slice (some ⟨g,0,none⟩) n cap).ownBlock=some b) w wr) (hg:wr.grownBy w5 vp.ownBlock) (hown:w5.ownsRow m 9 1 va (st.pend.length+own.length) (st.pend.map Value.string++own.map Value.string)) (hat:va.ownBlock=vp.ownBlock\/va.ownBlock=some wr.heap.size) : Dp m W st vp N (.slice (some ⟨g,0,none⟩) n cap) x L own w (.returned (.slice (some ⟨g,0,none⟩) n cap)) (PY w5 m g va ((st.groups:Int)+1) ((st.count:Int)+(n:Int))):=by
 have hgN:N<=g:=(hr.own.lt g rfl).1;have hgw:g<wr.heap.size:=(hr.own.lt g rfl).2;have hmr:=hm.fr hF (fun e=>absurd (show g=m by simpa [Value.ownBlock] using e) (by omega)) (fun b hb e=>by have e1:g=b:=(by simpa [Value.ownBlock] using e);have:=F9 b hb;omega);have AZ:vp.ownBlock≠some m:=bR hm.own hm.cb (by decide);have Rl:vp.ownBlock≠some g:=fun e=>by have:=F9 g e;omega
 have Rm:=aO.grown hg;have Dw:=hmr.cb.fr Rm AZ;have Dm:aI 37 6 (fun b=>vp.ownBlock=some b) N wr.heap.size (((x::L).map (dI st.groups)).map Bx.d) (((x::L).map (dI st.groups)).map bH) (.slice (some ⟨g,0,none⟩) n cap) w5:=
  hr.fr Rm (fun _ h=>h.elim) (fun b hb h e=>by rcases h with h | h;exact h;have:=F9 b e;omega)
 have Na:va.ownBlock≠some g:=fun e=>nE hown Dm.own (by decide) g e rfl
 have Rn:va.ownBlock≠some m:=bR hown Dw (by decide);have Nb:∀ b,va.ownBlock=some b->vp.ownBlock=some b\/wr.heap.size<=b:=fun b e=>by
  rcases hat with h | h
  ·exact .inl (h ▸ e)
  ·rw [h] at e;exact .inr (by have:=Option.some.inj e;omega)
 have hst:=Dm.store 0 5 (bH (dI st.groups x)) (sD st.groups (st.pend++own) x).d va (by rfl) (by decide) (by
  have hx:(bH (dI st.groups x)).set 5 va=xO (sD st.groups (st.pend++own) x).text (sD st.groups (st.pend++own) x).ht (sD st.groups (st.pend++own) x).gr (sD st.groups (st.pend++own) x).keep (sD st.groups (st.pend++own) x).fl va:=rfl;rw [hx];refine Bx.nD _ (Rd.uU (l:=st.pend++own) (by rw [List.length_append,List.map_append];exact hown) (fun b e=>⟨?_,fun e'=>Na (e' ▸ e)⟩));rcases Nb b e with h | h
  ·exact .inl h
  ·exact .inr (by have:=hr.1;omega))
 have hS:∀ (W':Zu) (j:Nat) (u:Zw),(W'.setCell ⟨m,j,none⟩ u).heap.size=W'.heap.size:=fun W' j u=>by simp [World.setCell]
 have X9:(w5.setCell ⟨g,5,none⟩ va).heap.size=w5.heap.size:=by simp [World.setCell]
 have hne:∀ (W':Zu),∀ b,b<W'.heap.size->(vp.ownBlock=some b\/N<=b)->¬ b=m:=fun W' b _ h e=>by
  subst e;rcases h with h | h
  ·exact AZ h
  ·omega
 have m6:CB 63 m [.int .i64 W,.int .i64 (st.groups:Int),vp,.int .i64 (st.count:Int),.bool st.lH,.int .i64 (st.err:Int)] (w5.setCell ⟨g,5,none⟩ va):=Dw.fr (aO.set w5 g 5 va) (by omega);have m9:=qN (qN (qN m6 2 (.slice none 0 0)) 1 (.int .i64 ((st.groups:Int)+1))) 3 (.int .i64 ((st.count:Int)+(n:Int)));have f6:=aO.set w5 g 5 va;have f7:=aO.set (w5.setCell ⟨g,5,none⟩ va) m 2 (.slice none 0 0);have f8:=aO.set ((w5.setCell ⟨g,5,none⟩ va).setCell ⟨m,2,none⟩ (.slice none 0 0)) m 1 (.int .i64 ((st.groups:Int)+1));have f9:=aO.set (((w5.setCell ⟨g,5,none⟩ va).setCell ⟨m,2,none⟩ (.slice none 0 0)).setCell ⟨m,1,none⟩ (.int .i64 ((st.groups:Int)+1))) m 3 (.int .i64 ((st.count:Int)+(n:Int)));have f79:aO (fun b=>b=m) (w5.setCell ⟨g,5,none⟩ va) (PY w5 m g va ((st.groups:Int)+1) ((st.count:Int)+(n:Int))):=(f7.trans f8 (fun _ _ h=>h)).trans f9 (fun _ _ h=>h);have hsz:(PY w5 m g va ((st.groups:Int)+1) ((st.count:Int)+(n:Int))).heap.size=w5.heap.size:=by unfold PY;simp [World.setCell]
 have Ir:jZ st (x::L) own=(sD st.groups (st.pend++own) x::L.map (dI st.groups),{ st with groups:=st.groups+1,pend:=[],count:=st.count+(x::L).length }):=by unfold jZ;rw [hf];rfl
 refine ⟨rfl,va,?_,?_,?_,?_,?_⟩
 ·rw [Ir];have h1:=hst.fr f79 (fun _ h=>h) (fun b hb h=>hne _ b hb h);have h2:=h1.top;rw [hsz] at h2 ⊢;have e1:((x::L).map (dI st.groups)).map Bx.d=(dI st.groups x).d::(L.map (dI st.groups)).map Bx.d:=rfl;have e2:((x::L).map (dI st.groups)).map bH=bH (dI st.groups x)::L.map (fun y=>bH (dI st.groups y)):=by simp
  rw [e1,e2,List.set_cons_zero,List.set_cons_zero] at h2;exact h2
 ·rw [List.length_append,List.map_append];exact fO (fO hown f6 (fun b e e'=>Na (e' ▸ e))) f79 (fun b e e'=>Rn (e' ▸ e))
 ·intro b e;exact (Nb b e).imp id (fun h=>YJ hF.size h)
 ·rw [Ir];refine ⟨?_,⟨by simp,.inl ⟨rfl,rfl⟩⟩⟩;have e:(((st.count+(x::L).length:Nat)):Int)=(st.count:Int)+(n:Int):=by rw [hn];push_cast;rfl
  show CB _ m [.int .i64 W,.int .i64 ((st.groups+1:Nat):Int),.slice none 0 0,.int .i64 ((st.count+(x::L).length:Nat):Int),.bool st.lH,.int .i64 (st.err:Int)] _;rw [e];exact m9
 ·refine aO.trans (P:=fun b=>b=m\/vp.ownBlock=some b\/(Value.slice (some ⟨g,0,none⟩) n cap).ownBlock=some b) (aO.trans (aO.trans (hF.mono (fun b _ h=>.inr (.inr h))) Rm (fun b _ h=>.inr (.inl h))) f6 (fun b _ h=>.inr (.inr (by rw [h];rfl)))) f79 (fun b _ h=>.inl h)
theorem Dx (m:Nat) (W:Int) (st:St) (vp:Zw) (N U:Nat) (v vo:Zw) (x:Bx) (L:List Bx) (own:List ByteArray) (okO:Nat->Prop) (w:Zu) (hm:nQ m W st vp w) (hf:st.lH=false) (hr:aI 37 6 (fun _=>False) N U ((x::L).map Bx.d) ((x::L).map bH) v w) (han:∀ y∈x::L,y.an=[]) (ho:Rd okO w (dU own) [vo]) (Nc:∀ b,okO b->v.ownBlock≠some b) (hg:st.groups<=1000000000) (hc:st.count<=1000000000) (hL:L.length<=1000000) (hp:st.pend.length+own.length<=1000000) (LY:m<N) (F9:∀ b,vp.ownBlock=some b->b<N) : Calls Tryz.prog 64 #[.pointer (some ⟨m,0,none⟩),v,vo] w (Dp m W st vp N v x L own w):=by
 obtain ⟨iS,Ro,Kg,Kh,Ki⟩:=info_parts qP;obtain ⟨g,cap,rfl,hcap⟩:=kT hr.own (by simp);obtain ⟨ao,co,rfl⟩:∃ a c,vo=.slice a own.length c:=by obtain ⟨a,c,e,-⟩:=Rd.aD ho;simp at e;exact ⟨a,c,e⟩
 obtain ⟨n,hn⟩:∃ n,n=(x::L).length:=⟨_,rfl⟩;have hn0:((x::L).map Bx.d).length=n:=by rw [hn,List.length_map]
 rw [hn0] at hcap hr Nc ⊢;have hn1:0<n:=by rw [hn,List.length_cons];omega
 have PI:n<=1000001:=by rw [hn,List.length_cons];omega
 have Nf:m≠g:=by have:=(hr.own.lt g rfl).1;omega
 have hgw:g<w.heap.size:=(hr.own.lt g rfl).2;have V5:Hid (∀ w',aO (fun b=>(Value.slice (some ⟨g,0,none⟩) n cap).ownBlock=some b) w w'->Reads w' w'.heap.size 1 ao own.length (own.map Value.string)):=fun w' hF=>by
  obtain ⟨A,c,rows,hv,-,-,hr,-,hR⟩:=(ho.fr hF Nc).Dy;have e:ao=A:=by simp at hv;exact hv.1
  subst e;rw [aG.jK _ _ hr,jL,List.length_map] at hR;exact hR
 have HM:=hid hm;have HF:=hid hf;have HN:=hid hn;have AP:=hid (fun (va:Zw) (wr w5:Zu) hr hF hg hown hat=>Ke (m:=m) (g:=g) (n:=n) (cap:=cap) (W:=W) (vp:=vp) (va:=va) (x:=x) (L:=L) (own:=own) (w:=w) (wr:=wr) (w5:=w5) hm hf LY F9 hr hn (han x (by simp)) (fun y hy=>han y (by simp [hy])) hF hg hown hat);have Ya:=hid han;have TN:=hid (And.intro LY F9);have c1:=hm.cb.cell 1 _ rfl;have c4:=hm.cb.cell 4 _ rfl;rw [hf] at c4;have R0:Hid (Iq m N st.groups (x::L) (.slice (some ⟨g,0,none⟩) n cap) w (.int .i64 0) w):=⟨0,Nat.zero_le _,rfl,hr.top,aO.refl _ _⟩;obtain ⟨G,hG⟩:∃ G,G=st.groups:=⟨_,rfl⟩;rw [<- hG] at R0 AP c1 hg;have HG:=hid hG;clear hm hr hf hn hn0 ho han LY F9 hG Nc;go_enter Tryz.func64,Tryz.ntmps64;go_wp2
 go_loopw [15] (fun vi wr=>Iq m N G (x::L) (.slice (some ⟨g,0,none⟩) n cap) w vi wr) (fun vi _=>n-(intOf vi).toNat)
 case atStart=>exact R0.out
 case round=>
  clear R0;obtain ⟨k,hk,rfl,hrow,hfr⟩:=hrel;have hk':k<=n:=by have:=HN.out;omega
  have Iu:=HM.out.cb.fr hfr (fun e=>Nf (by simpa [Value.ownBlock] using e.symm));have d0:=Iu.cell 0 _ rfl;have d1:=Iu.cell 1 _ rfl;have d2:=Iu.cell 2 _ rfl;have d3:=Iu.cell 3 _ rfl;rw [<- HG.out] at d1;have mf:=rX Iu;have gf:=hrow.2.free (by omega);by_cases hlt:k<n
  ·obtain ⟨y,hy⟩:∃ y,(x::L)[k]?=some y:=⟨_,List.getElem?_eq_getElem (by have:=HN.out;omega)⟩;have hya:=F8 G k _ y hy;have Rp:((j6 G k (x::L)).map bH)[k]?=some (bH y):=by rw [List.getElem?_map,hya];rfl
   have TP:((j6 G k (x::L)).map Bx.d)[k]?=some y.d:=by rw [List.getElem?_map,hya];rfl
   have hget:=hrow.get Rp TP;have e2:=hget.2 2 _ rfl;have hst:=hrow.store k 2 (bH y) (dI G y).d (.int .i64 (G:Int)) Rp (by decide) (Bx.nD (dI G y) (by
    obtain ⟨va,e,h⟩:=Bx.open_ hget.1;have e':va=.slice none 0 0:=by simp [bH,xO] at e;exact e.symm
    rw [e'] at h;exact h))
   rw [show ((j6 G k (x::L)).map Bx.d).set k (dI G y).d=(j6 G (k+1) (x::L)).map Bx.d from by rw [<- List.map_set,qZ _ _ _ _ hy],
    show ((j6 G k (x::L)).map bH).set k ((bH y).set 2 (.int .i64 (G:Int)))=(j6 G (k+1) (x::L)).map bH from by rw [<- Du,<- List.map_set,qZ _ _ _ _ hy]] at hst
   have hf2:=hfr.trans (aO.set wr g (k*6+2) (.int .i64 (G:Int))) (fun b _ e=>by rw [e];rfl);have HST:=hid hst;have V6:=hid hf2;clear hst hf2 hget Rp TP hya hy hrow hfr Iu;go_wp2;go_roundw;case rel=>exact ⟨k+1,by have:=HN.out;omega,by go_num,by simpa using HST.out,V6.out⟩
   case measure=>simp [intOf];omega
  ·have hkn:k=(x::L).length:=by have:=HN.out;omega
   rw [hkn,Dt] at hrow;have hkn':k=n:=by omega
   have hRr:=V5.out wr hfr;have hpr:wr.ownsRow m 9 1 vp st.pend.length (st.pend.map Value.string):=fO HM.out.own hfr (fun b e e'=>by
    have:=TN.out.2 b e;have e1:g=b:=by simpa [Value.ownBlock] using e'
    have:=(hrow.own.lt g rfl).1;omega)
   have AZ:vp.ownBlock≠some m:=bR HM.out.own HM.out.cb (by decide);have Rl:vp.ownBlock≠some g:=fun e=>by have:=TN.out.2 g e;have:=(hrow.own.lt g rfl).1;omega
   have hx5:=(hrow.get (i:=0) (r:=bH (dI G x)) (d:=(dI G x).d) rfl rfl).2 5 _ rfl;have V7:=hid hx5;have V8:=hid gf;have TQ:=hid Iu;have HRW:=hid hrow;have PE:=hid hfr;have PO:=hid AZ;have Rq:=hid Rl;obtain ⟨ap,cp,rfl⟩:=HM.out.slice;obtain ⟨pl,hpl⟩:∃ pl,pl=st.pend.length:=⟨_,rfl⟩;rw [<- hpl] at hpr d2 hp AP PO Rq;rw [<- hpl];have Kj:=hid hpr;have HRR:=hid hRr;have Tt:=hid hpl;clear hkn hrow hfr Iu hpl AZ Rl hx5 hpr hRr;go_wp2_with (at_builtin;(refine LM _ rfl _ _ 35 rfl m 9 iS _ 1 16 Tryz.underlying35 Ro Kg Kh Ki rfl (by decide) _ _ _ rfl Kj.out wr.heap.size _ _ _ _ rfl HRR.out ?c1 ?c2 ?c3 ?c4 ?_))
   case c1=>
    intro u hu;obtain ⟨s,_,rfl⟩:=List.mem_map.1 hu;rfl
   case c2=>unfold maxLen;omega
   case c3=>omega
   case c4=>have:=TQ.out.lt;omega
   intro va w5 hown5 hg5 FU;obtain ⟨a5,c5,rfl⟩:=lI hown5;have Dw:=TQ.out.fr (aO.grown hg5) PO.out;have m1:=Dw.cell 1 _ rfl;have m2:=Dw.cell 2 _ rfl;have m3:=Dw.cell 3 _ rfl;rw [<- HG.out] at m1;have Yb:=rX Dw;have g5:w5.cell? ⟨g,5,none⟩=some (.slice none 0 0):=by have hgl:=(HRW.out.own.lt g rfl).2;exact (mg (hg5.block g hgl (fun e=>Rq.out e.symm)) 5).trans V7.out
   have Yc:∀ j,w5.frozen? ⟨g,j,none⟩=false:=fun j=>by
    have hgl:=(HRW.out.own.lt g rfl).2;exact (CJ (hg5.block g hgl (fun e=>Rq.out e.symm)) j).trans (V8.out j)
   have HP:=hid (AP.out _ wr w5 HRW.out PE.out hg5 hown5 FU);clear Dw hown5 hg5 FU;go_wp2;go_ret;rw [<- Tt.out];exact HP.out
open Go.RowKit
theorem Ba {st:St} {L:List Bx} {own:List ByteArray} (h:st.lH=true):jZ st L own=(L,st):=by unfold jZ;rw [if_pos h]
theorem jH (st:St) (L:List Bx) (own:List ByteArray):(jZ st L own).2.err=st.err:=by unfold jZ;split<;>rfl
theorem aI.basis {T:TypeId} {k n n' U:Nat} {ok:Nat->Prop} {w:Zu} {ds:List D} {rows:List (List Zw)} {v:Zw} (h:aI T k ok n U ds rows v w) (hn:n'<=n):aI T k ok n' U ds rows v w:=
 aI.nD (YJ hn h.1) (kP h.own hn) (aG.keep (fun b hb _=>⟨⟨hb.1.imp id (fun h=>YJ hn h),hb.2⟩,rfl⟩) _ _ h.red) h.2.len h.2.oU (YJ hn h.le) h.2.MF
def oz (m:Nat) (W:Int) (st:St) (vp:Zw) (N:Nat) (v:Zw) (L:List Bx) (own:List ByteArray) (w:Zu) (e:Ending) (w':Zu):Prop:=
 ∃ rows eB,e=.returned v/\aI 37 6 (fun b=>vp.ownBlock=some b/\eB.ownBlock≠some b) N w'.heap.size ((jZ st L own).1.map Bx.d) rows v w'/\nQ m W (jZ st L own).2 eB w'/\(eB=vp\/eB=.slice none 0 0) /\
  aO (fun b=>b=m\/vp.ownBlock=some b\/v.ownBlock=some b) w w'
theorem uP (m:Nat) (W:Int) (st:St) (vp:Zw) (N U:Nat) (v vo:Zw) (L:List Bx) (own:List ByteArray) (okO:Nat->Prop) (w:Zu) (hm:nQ m W st vp w) (h0:L≠[]) (hr:aI 37 6 (fun _=>False) N U (L.map Bx.d) (L.map bH) v w) (han:∀ y∈L,y.an=[]) (ho:Rd okO w (dU own) [vo]) (Nc:∀ b,okO b->v.ownBlock≠some b) (hg:st.groups<=1000000000) (hc:st.count<=1000000000) (hL:L.length<=1000000) (hp:st.pend.length+own.length<=1000000) (LY:m<N) (F9:∀ b,vp.ownBlock=some b->b<N) : Calls Tryz.prog 64 #[.pointer (some ⟨m,0,none⟩),v,vo] w (oz m W st vp N v L own w):=by
 by_cases hf:st.lH=true
 ·refine (Dq m W st vp v vo w hm hf).mono ?_;rintro e w' ⟨rfl,rfl⟩;rw [oz,Ba hf];exact ⟨L.map bH,vp,rfl,hr.top.weaken (fun _ h=>h.elim),hm,.inl rfl,aO.refl _ _⟩
 ·have hf:st.lH=false:=by simpa using hf
  cases L with
  | nil=>exact absurd rfl h0
  | cons x L=>
   refine (Dx m W st vp N U v vo x L own okO w hm hf hr han ho Nc hg hc (by simp at hL;omega) hp LY F9).mono ?_;rintro e w' ⟨rfl,va,h1,h2,h3,h4,h5⟩;exact ⟨_,.slice none 0 0,rfl,h1.weaken (fun b h=>⟨h,by simp [Value.ownBlock]⟩),h4,.inr rfl,h5⟩
theorem bU.of {m:Nat} {W:Int} {st:St} {vp:Zw} {N:Nat} {v:Zw} {L:List Bx} {own:List ByteArray} {w w1 w':Zu} {e:Ending} (h:oz m W st vp N v L own w1 e w') (hf:aO (fun b=>b=m\/vp.ownBlock=some b) w w1) (hN:w.heap.size<=N) : bU m W w vp (jZ st L own) e w':=by
 obtain ⟨rows,eB,rfl,hr,hm,hv,hF⟩:=h;refine ⟨v,rows,eB,rfl,hr.basis hN,hm,fun _=>hv,fun g e=>?_,hf.trans hF (fun b hb e=>?_)⟩
 ·rcases hv with rfl | rfl
  ·exact .inl e
  ·simp [Value.ownBlock] at e
 ·rcases e with e | e | e
  ·exact .inl e
  ·exact .inr e
  ·have:=(hr.own.lt b e).1;omega
theorem bU.from_ {m:Nat} {W:Int} {vp:Zw} {r:List Bx × St} {w w1 w':Zu} {e:Ending} (h:bU m W w1 vp r e w') (hb:Below w.heap.size w w1):bU m W w vp r e w':=by obtain ⟨v,rows,eB,rfl,hr,hm,hv,ho,hF⟩:=h;exact ⟨v,rows,eB,rfl,hr.basis hb.size,hm,hv,fun g e=>(ho g e).imp id (fun h=>YJ hb.size h),(aO.of_below hb _).trans hF (fun _ _ e=>e)⟩
mutual
def aj.lU:aj->Nat
 | .mk k lv i t d ti a li ks=>30+i.size+2*t.size+2*(ah.ay li).length+(gK (ah.aC li)).length+aj.bg ks
def aj.bg:List aj->Nat
 | []=>0
 | x::l=>x.lU+aj.bg l
end
structure Fits (n:Nat) (st:St) (p:Px):Prop where
 f:p.first.size+n<=1000000
 r:p.rest.size+n<=1000000
 g:st.groups+n<=1000000
 c:st.count+n<=1000000
 p:st.pend.length+n<=1000000
structure dP (n:Nat) (st st':St):Prop where
 g:st'.groups<=st.groups+n
 c:st'.count<=st.count+n
 p:st'.pend.length<=st.pend.length+n
 f:st'.lH=st.lH
theorem dP.refl (n:Nat) (st:St):dP n st st:=⟨by omega,by omega,by omega,rfl⟩
theorem dP.trans {n n':Nat} {a b c:St} (h:dP n a b) (h2:dP n' b c):dP (n+n') a c:=⟨by have:=h.g;have:=h2.g;omega,by have:=h.c;have:=h2.c;omega,by have:=h.p;have:=h2.p;omega,h2.f.trans h.f⟩
theorem dP.mono {n n':Nat} {a b:St} (h:dP n a b) (hn:n<=n'):dP n' a b:=⟨by have:=h.g;omega,by have:=h.c;omega,by have:=h.p;omega,h.f⟩
theorem Fits.next {n n':Nat} {st st':St} {p p':Px} (h:Fits (n+n') st p) (hg:dP n st st') (h1:p'.first.size<=max p.first.size p.rest.size+n) (h2:p'.rest.size<=p.rest.size+n):Fits n' st' p':=by obtain ⟨a,b,c,d,e⟩:=h;obtain ⟨g1,g2,g3,g4⟩:=hg;exact ⟨by omega,by omega,by omega,by omega,by omega⟩
theorem Fits.mono {n n':Nat} {st:St} {p:Px} (h:Fits n st p) (hn:n'<=n):Fits n' st p:=by obtain ⟨a,b,c,d,e⟩:=h;exact ⟨by omega,by omega,by omega,by omega,by omega⟩
theorem gU (st:St) (L:List Bx) (own:List ByteArray) (n:Nat) (h1:1<=n) (h2:L.length<=n):dP n st (jZ st L own).2/\(jZ st L own).1.length=L.length:=by
 unfold jZ;split
 ·exact ⟨dP.refl _ _,rfl⟩
 ·refine ⟨⟨by simp only;omega,by simp only;omega,by simp,rfl⟩,?_⟩;cases L<;>simp
theorem Dk (st:St):dP 0 st st.lim:=by unfold St.lim;split<;>exact ⟨by simp,by simp,by simp,rfl⟩
end Go.Proofs.YtnmldmofggkoeaaGreatDoor

