/- Contract of (*count.levels).next: the counters of sections go up, and the value of the section. Contracts of html.element, pairs, data, titled, attributes. Contract of html.cleanLine: attr.Check of one pair. Contract of publisherref34.num: a number in decimal. -/
import Derived.Test.YtkfnkeflalcphaaGreatDoorMCtK
import Derived.Test.YtkfnkeflalcphaaGreatDoorMSlugAll
set_option maxHeartbeats 4000000
set_option maxRecDepth 100000
open Go.Lib (hid)
namespace Go.Proofs.YtkfnkeflalcphaaGreatDoor
open Tryz
open Go.RowKit
set_option linter.unusedVariables false
set_option linter.unusedSimpArgs false
section
variable {T:TypeId} {p:Nat} {c:List Nat} {k m i:Nat} {w wr w':World} {v v':Value}
end
theorem U0 (xs:List ByteArray) (sep:ByteArray) (v:Value) (w:World) (h:Dt w 1 v xs.length (xs.map Value.string)) (hl:(Lib.join (xs.map (·.data.toList)) sep.data.toList).length<=140737488355328) (hn:xs.length<=140737488355328) : Calls prog 173 #[v,.string sep] w fun e w'=>e=.returned (.string ⟨(Lib.join (xs.map (·.data.toList)) sep.data.toList).toArray⟩)/\Below w.heap.size w w':=by
 obtain ⟨-,a,cap,rfl,hcap,hmx,hcs⟩:=h;by_cases h0:xs=[]
 ·subst h0;refine (Tryz.strings_Join_none a cap sep w).mono ?_;rintro e w' ⟨rfl,rfl⟩;exact ⟨rfl,Below.refl _ _⟩
 ·have hx:0<xs.length:=List.length_pos_iff.2 h0;rcases hcs with h1 | ⟨b,off,rfl,hc⟩
  ·omega
  ·refine Tryz.strings_Join b off cap xs sep w (fun j x hj=>?_) ?_ hn (by omega) hl
   ·have:=hc j (.string x) (by rw [List.getElem?_map,hj];rfl);simpa using this
   ·obtain ⟨x,hj⟩:∃ x,xs[0]?=some x:=⟨_,List.getElem?_eq_getElem hx⟩;exact nX (hc 0 (.string x) (by rw [List.getElem?_map,hj];rfl))
open Go.RowKit
theorem oC:(prog.info? 35).map (fun i=>(i.zero,i.size,i.bytes))=some (some (.agg #[.string ByteArray.empty,.string ByteArray.empty,.slice none 0 0,.slice none 0 0]),4,80):=by kernel_rfl
theorem tV {α β:Type} (f:α->β) (l:List α) (k:Nat) (x:α) (h:l[k]?=some x):(l.take (k+1)).map f=(l.take k).map f++[f x]:=by rw [List.take_add_one,h];simp
def oD (l:List Pr):List ByteArray:=l.flatMap fun p=>[p.key,p.val]
theorem Ev (l:List Pr):(oD l).length=2*l.length:=by
 induction l with
 | nil=>rfl
 | cons p l ih=>
  have e:oD (p::l)=[p.key,p.val]++oD l:=rfl;rw [e,List.length_append,ih,List.length_cons,List.length_cons,List.length_cons,List.length_nil];omega
theorem Ew:∀ (l:List Pr) (k:Nat) (p:Pr),l[k]?=some p->(oD l)[2*k]?=some p.key/\(oD l)[2*k+1]?=some p.val
 | [],_,_,h=>by simp at h
 | q::l,0,p,h=>by simp at h;subst h;exact ⟨rfl,rfl⟩
 | q::l,k+1,p,h=>by
  obtain ⟨h1,h2⟩:=Ew l k p (by simpa using h);constructor
  ·show ([q.key,q.val]++oD l)[2*(k+1)]?=_;rw [List.getElem?_append_right (by simp;omega),<- h1];rfl
  ·show ([q.key,q.val]++oD l)[2*(k+1)+1]?=_;rw [List.getElem?_append_right (by simp;omega),<- h2];rfl
def q1z (w:World) (x:Nd) (e:Ending) (w':World):Prop:=
 ∃ va vk,e=.returned (.agg #[.string x.nm,.string x.tx,va,vk])/\nC (w.heap.size<=·) w' x.at_ x.ks va vk/\Below w.heap.size w w'
def dP (w:World) (l:List Nd) (e:Ending) (w':World):Prop:=
 ∃ rows v,e=.returned v/\aC 35 4 (fun _=>False) w'.heap.size w (l.map Nd.d) rows v w'
def bV (w:World) (l:List Pr) (e:Ending) (w':World):Prop:=
 ∃ rows v,e=.returned v/\aC 61 2 (fun _=>False) w'.heap.size w (l.map Pr.d) rows v w'
theorem dP.nil (w w':World) (h:Below w.heap.size w w'):dP w [] (.returned (.slice none 0 0)) w':=
 ⟨[],_,rfl,((aC.nil _ _ _ w).below h).top⟩
theorem aC.one {T:TypeId} {k:Nat} {w:World} {d:D} {r:List Value} (hr:r.length=k) (hx:Rd (fun _=>False) w d r):aC T k (fun _=>False) (w.alloc (.cells r.toArray T)).heap.size w [d] [r] (.slice (some ⟨w.heap.size,0,none⟩) 1 1) (w.alloc (.cells r.toArray T)):=by
 have hs:(w.alloc (.cells r.toArray T)).heap.size=w.heap.size+1:=World.size_alloc _ _;refine ⟨?_,?_,by simp [hr],(Below.refl _ _).alloc (Nat.le_refl _) _,?_,by omega,Nat.le_refl _⟩
 ·refine ⟨by simp [hr],.inr ⟨w.heap.size,1,r.toArray,rfl,Nat.le_refl _,?_,by simp,by unfold maxLen;omega,?_,?_⟩⟩
  ·exact heap_alloc_new w _
  ·simp [hr]
  ·subst hr;simp
 ·exact aO.one (Rd.keep (fun b hb _=>hb.elim) _ _ hx)
 ·intro g hg;have e1:w.heap.size=g:=by simpa [Value.ownBlock] using hg
  omega
theorem ny (n:ByteArray) (a1 a2:Option Addr) (n1 n2 c1 c2:Nat) (w:World) : Calls prog 40 #[.string n,.slice a1 n1 c1,.slice a2 n2 c2] w fun e w'=>e=.returned (.agg #[.string n,.string ⟨#[]⟩,.slice a1 n1 c1,.slice a2 n2 c2])/\Below w.heap.size w w':=by go_enter func40,ntmps40;go_wp2;exact bodyPost_ret (v:=.agg #[.string n,.string ⟨#[]⟩,.slice a1 n1 c1,.slice a2 n2 c2]) (by simp [results,results40,go_sem]) rfl ⟨rfl,(Below.refl _ _).alloc (Nat.le_refl _) _⟩
theorem jd (s:ByteArray) (w:World):Calls prog 53 #[.string s] w (dP w (bY s)):=by
 by_cases hs:aV s=true
 ·have q1:s.toList.isEmpty=true:=by rw [Lib.toList_data];unfold aV at hs;simpa using hs
  have E:Hid (bY s=[]):=by show _=_;unfold bY;rw [if_pos hs]
  clear hs;go_enter func53,ntmps53;go_wp2;go_ret;rw [E.out];exact dP.nil w w (Below.refl _ _)
 ·have q1:s.toList.isEmpty=false:=by rw [Lib.toList_data];unfold aV at hs;simpa using hs
  have E:Hid (bY s=[Jk s]):=by show _=_;unfold bY;rw [if_neg hs]
  clear hs;go_enter func53,ntmps53;go_wp2;go_ret;rw [E.out];exact ⟨_,_,rfl,aC.one (r:=[.string ⟨#[]⟩,.string s,.slice none 0 0,.slice none 0 0]) rfl (Nd.fC ⟨#[]⟩ s ⟨Rd.aI _ _ _,Rd.aI _ _ _⟩)⟩
theorem yR {k v:ByteArray}:∀ u∈([.string k,.string v]:List Value),u.oneCell'=true:=by intro u hu;simp at hu;rcases hu with rfl | rfl<;>rfl
def jf8 (w:World) (ps:List Pr) (v vi:Value) (wr:World):Prop:=
 ∃ (k:Nat) (rows:List (List Value)),k<=ps.length/\vi=.int .i64 (2*k:Nat)/\aC 61 2 (fun _=>False) wr.heap.size w ((ps.take k).map Pr.d) rows v wr
theorem mH (ps:List Pr) (v:Value) (w:World) (hrd:Rd (·<w.heap.size) w (jf (oD ps)) [v]) (hn:ps.length<=1000) : Calls prog 41 #[v] w (bV w ps):=by
 obtain ⟨iP,hiP,Du,Dv,Dw⟩:=info_parts qZ;obtain ⟨a,cap,hv,hs⟩:=Rd.aB hrd;obtain ⟨m,hm⟩:∃ m,m=2*ps.length:=⟨_,rfl⟩;obtain rfl:v=.slice a m cap:=by
  have:v=.slice a ((oD ps).map D.str).length cap:=by simpa using hv
  rw [this,List.length_map,Ev,hm]
 have hcap:m<=cap:=by have:=hs.le;rw [List.length_map,Ev] at this;omega
 have hmx:=hs.max;unfold maxLen at hmx;have HS:=hid hs;have R0:Hid (jf8 w ps (.slice none 0 0) (.int .i64 0) w):=⟨0,[],Nat.zero_le _,rfl,aC.nil _ _ _ _⟩;have hm1:m<=2*ps.length:=Nat.le_of_eq hm;have hm2:2*ps.length<=m:=Nat.le_of_eq hm.symm;clear hs hv hrd hm;go_enter func41,ntmps41;go_wp2
 go_loopw [3,4] (fun v vi wr=>jf8 w ps v vi wr) (fun _ i _=>m-(intOf i).toNat)
 case atStart=>exact R0.out
 case round=>
  clear R0;obtain ⟨k,rows,hk,rfl,hrow⟩:=hrel;obtain ⟨ds,hds⟩:∃ ds,ds=(ps.take k).map Pr.d:=⟨_,rfl⟩;rw [<- hds] at hrow;have hdn:ds.length=k:=by rw [hds];simp;omega
  have Dp:=hid hds;have HDN:=hid hdn;obtain ⟨av,cv,rfl,-,-⟩:=hrow.cap hdn;have bR:=hid hrow;have hbel:=hrow.aY;clear hrow hdn hds;obtain ⟨i,hi⟩:∃ i,i=2*k:=⟨_,rfl⟩;have hi1:i<=2*k:=Nat.le_of_eq hi;have hi2:2*k<=i:=Nat.le_of_eq hi.symm;rw [<- hi];by_cases hlt:k<ps.length
  ·obtain ⟨p,hp⟩:∃ p,ps[k]?=some p:=⟨_,List.getElem?_eq_getElem hlt⟩;obtain ⟨g1,g2⟩:=Ew ps k p hp;rw [<- hi] at g1 g2;obtain ⟨b,off,rfl,-,hbl,hc1⟩:=kM HS.out g1;obtain ⟨b',off',he,-,-,hc2⟩:=kM HS.out g2;injection he with he
   injection he with he1 he2
   subst he1 he2;have e1:wr.cell? ⟨b,off+i,none⟩=some (.string p.key):=(hbel.cell (p:=⟨b,off+i,none⟩) hbl).trans hc1;have e2:wr.cell? ⟨b,off+(i+1),none⟩=some (.string p.val):=(hbel.cell (p:=⟨b,off+(i+1),none⟩) hbl).trans hc2;have HX:=hid (tV Pr.d ps k p hp);rw [<- Dp.out] at HX;obtain ⟨pk,pv⟩:=p;dsimp only at e1 e2;have q1:decide ((i:Int)+1<(m:Int))=true:=decide_eq_true (by omega);have q2:decide (i+1<m)=true:=decide_eq_true (by omega);have UD:=hid bR.out.drew;have HI2:Hid (2*(k+1)=i+2):=by show _=_;omega
   have hkk:k<=10000000:=by omega
   obtain ⟨j,hj⟩:∃ j,j=i+1:=⟨_,rfl⟩;rw [<- hj] at e2;have r2:IntKind.i64.wrap ((i:Int)+1)=((j:Nat):Int):=by
    have h:(i:Int)+1=((j:Nat):Int):=by omega
    rw [h];exact IntWalk.i64_in _ ⟨by omega,by omega⟩
   have r0:(0:Int)<=(i:Int):=by omega
   have r1:(i:Int)<(m:Int):=by omega
   have r3:(0:Int)<=(j:Int):=by omega
   have r4:(j:Int)<(m:Int):=by omega
   have r5:i<m:=by omega
   have r6:j<m:=by omega
   clear hc1 hc2 hp g1 g2 hbel bR hi hj;go_upto_region 5 with (fail)
   have S0:wr.drew.cell? ⟨b,off+i,none⟩=some (.string pk)/\wr.drew.cell? ⟨b,off+j,none⟩=some (.string pv):=⟨e1,e2⟩;have hbv:(Value.slice av k cv).ownBlock≠some b:=fun e=>by have:=(UD.out.own.lt b e).1;omega
   have hbr:b<wr.heap.size:=Nat.lt_of_lt_of_le hbl UD.out.aY.size
   go_region_held3 (fun w'=>w'.cell? ⟨b,off+i,none⟩=some (.string pk)/\w'.cell? ⟨b,off+j,none⟩=some (.string pv))
    (first | exact S0 | assumption | exact ⟨past S0.1 _,past S0.2 _⟩ | exact S7)
    ((refine Ab rfl (.tmp 12) (.tmp 23) 24 rfl iP _ 32 underlying24 hiP Du Dv Dw rfl (by decide) UD.out (fun _=>False.elim) (⟨pk,pv⟩:Pr).d [.string pk,.string pv] (Pr.fC _ _ ⟨pk,pv⟩) rfl yR HDN.out hkk (by decide) rfl rfl ?_;intro a' c' w7 hrow hg7;have S7:w7.cell? ⟨b,off+i,none⟩=some (.string pk)/\w7.cell? ⟨b,off+j,none⟩=some (.string pv):=⟨(World.grownBy.cell_far hg7 ⟨b,_,none⟩ (by simp;omega) (fun e=>hbv e.symm)).trans (past S0.1 _),(World.grownBy.cell_far hg7 ⟨b,_,none⟩ (by simp;omega) (fun e=>hbv e.symm)).trans (past S0.2 _)⟩))
   have bR:=hid hrow;rw [<- HX.out] at bR;clear hrow e1 e2 q1 q2 r0 r1 r2 r3 r4 r5 r6 S0;go_wp2;go_roundw;case rel=>exact ⟨k+1,_,by omega,by rw [HI2.out];go_num,bR.out⟩
   case measure=>simp [intOf];omega
  ·have hkl:k=ps.length:=by omega
   subst hkl;have q1:decide ((i:Int)+1<(m:Int))=false:=decide_eq_false (by omega);have q2:decide (i+1<m)=false:=decide_eq_false (by omega);rw [Dp.out,List.take_length] at bR;go_wp2;go_ret;exact ⟨_,_,rfl,bR.out⟩
def jrj (w0 w:World) (l:List Pr) (v:Value) (e:Ending) (w':World):Prop:=
 ∃ rows v',e=.returned v'/\aC 61 2 (fun _=>False) w'.heap.size w0 (l.map Pr.d) rows v' w'/\w.grownBy w' v.ownBlock
theorem Ad (l:List Pr) (t:ByteArray) (v:Value) (rows:List (List Value)) (U:Nat) (w0 w:World) (h:aC 61 2 (fun _=>False) U w0 (l.map Pr.d) rows v w) (hl:l.length<=1000) : Calls prog 163 #[v,.string t] w (jrj w0 w (l++jm q32 t) v):=by
 obtain ⟨iP,hiP,Du,Dv,Dw⟩:=info_parts qZ;obtain ⟨n,hn⟩:∃ n,n=l.length:=⟨_,rfl⟩;have hdn:(l.map Pr.d).length=n:=by rw [List.length_map,hn]
 have HDN:=hid hdn;obtain ⟨av,cv,rfl,-,-⟩:=h.cap hdn;have H:=hid h;have hnn:n<=10000000:=by omega
 by_cases ht:aV t=true
 ·have q1:t.toList.isEmpty=true:=by rw [Lib.toList_data];unfold aV at ht;simpa using ht
  have E:Hid (l++jm q32 t=l):=by show _=_;unfold jm;rw [if_pos ht,List.append_nil]
  clear ht h hdn hn;go_enter func163,ntmps163;go_wp2;go_ret;rw [E.out];exact ⟨rows,_,rfl,H.out.top,World.grownBy.refl w _⟩
 ·have q1:t.toList.isEmpty=false:=by rw [Lib.toList_data];unfold aV at ht;simpa using ht
  have E:Hid ((l++jm q32 t).map Pr.d=l.map Pr.d++[(⟨q32,t⟩:Pr).d]):=by show _=_;unfold jm;rw [if_neg ht,List.map_append];rfl
  clear ht h hdn hn;go_enter func163,ntmps163;go_wp2_with (at_builtin;refine fF rfl _ _ 24 rfl iP _ 32 underlying24 hiP Du Dv Dw rfl (by decide) H.out (fun _=>False.elim) (⟨q32,t⟩:Pr).d [.string ⟨#[116,105,116,108,101]⟩,.string t] (Pr.fC _ _ ⟨q32,t⟩) rfl yR HDN.out hnn (by decide) rfl rfl ?_)
  intro a' c' w5 hrow hg5;have bR:=hid hrow;have HG:=hid (Jl (World.grownBy_alloc w _ _) hg5);clear hrow hg5;go_wp2;go_ret;exact ⟨_,_,rfl,by rw [E.out];exact bR.out,HG.out⟩
open Go.RowKit
theorem Jm (s:ByteArray) (w:World) (hs:s.size<=600) : Calls prog 51 #[.string s] w (dF (.bool (((At.err ⟨⟨#[]⟩,[],[⟨⟨#[116,105,116,108,101]⟩,s⟩]⟩:Nat):Int)==0)) w):=by
 obtain ⟨w1,hw1⟩:∃ w1,w1=w.alloc (.cells #[.string ⟨#[116,105,116,108,101]⟩,.string s] 61):=⟨_,rfl⟩;have hb:Below w.heap.size w w1:=by rw [hw1];exact (Below.refl _ _).alloc (Nat.le_refl _) _
 have hp:Rd (·<w1.heap.size) w1 (dx [⟨⟨#[116,105,116,108,101]⟩,s⟩]) [.slice (some ⟨w.heap.size,0,none⟩) 1 1]:=by have h:=(aC.one (T:=61) (k:=2) (w:=w) (d:=(⟨⟨#[116,105,116,108,101]⟩,s⟩:Pr).d) (r:=[.string ⟨#[116,105,116,108,101]⟩,.string s]) rfl (Pr.fC _ _ ⟨⟨#[116,105,116,108,101]⟩,s⟩)).iZ;have h2:=h.inside;rw [hw1];exact h2.weaken (fun b hk=>hk.2)
 have AC:=hid (show Calls prog 95 #[.agg #[.string ⟨#[]⟩,.slice none 0 0,.slice (some ⟨w.heap.size,0,none⟩) 1 1]] w1 (dF (.int .i64 (At.err ⟨⟨#[]⟩,[],[⟨⟨#[116,105,116,108,101]⟩,s⟩]⟩:Nat)) w1) from iy ⟨⟨#[]⟩,[],[⟨⟨#[116,105,116,108,101]⟩,s⟩]⟩ none (some ⟨w.heap.size,0,none⟩) 0 1 w1 ⟨Rd.aI _ _ _,hp⟩ (by
  unfold At.short;refine ⟨by simp,by simp,by show (⟨#[]⟩:ByteArray).size<=600;decide,by simp,fun p h=>?_⟩;rw [List.mem_singleton.1 h];exact ⟨by show (⟨#[116,105,116,108,101]⟩:ByteArray).size<=600;decide,hs⟩))
 have HB:=hid hb;clear hp hb;obtain ⟨er,her⟩:∃ er,er=At.err ⟨⟨#[]⟩,[],[⟨⟨#[116,105,116,108,101]⟩,s⟩]⟩:=⟨_,rfl⟩;rw [<- her] at AC ⊢;clear her;go_enter func51,ntmps51;rw [hw1] at AC HB;go_wp2_with fail
 (with_reducible refine AC.out.mono ?_)
 rintro e w2 ⟨rfl,b2⟩;have HF:=hid (q01 HB.out b2);clear AC HB b2 hw1;go_wp2;go_ret;exact ⟨rfl,HF.out⟩
open Go.RowKit
end Go.Proofs.YtkfnkeflalcphaaGreatDoor

