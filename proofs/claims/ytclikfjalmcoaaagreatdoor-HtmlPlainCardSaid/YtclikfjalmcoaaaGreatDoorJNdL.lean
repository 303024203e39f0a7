/- Contract of html.table: the node of a table. A literal of two nodes; what Page leaves. -/
import Derived.Test.YtclikfjalmcoaaaGreatDoorJHtR
set_option maxHeartbeats 8000000
set_option maxRecDepth 100000
open Go.Lib (hid)
namespace Go.Proofs.YtclikfjalmcoaaaGreatDoor
open List renaming setIfInBounds_toArray->jc3,set_cons_zero->jc4,set_cons_succ->jc5,length_map->jcx
open Go.RowKit.Below renaming refl->jc7,heap_alloc->jd2
open Nat renaming le_refl->jc8,le_trans->jc9
open Option.some renaming inj->jd0
open Go renaming World->jf9,Value->jfk
open Go.RowKit renaming Below->jfj
open Go.RowKit
set_option linter.unusedVariables false
set_option linter.unusedSimpArgs false
structure XY (i:ByteArray) (ks:List au):Prop where
 ne:ks≠[]
 len:ks.length<=900000
 row:∀ r∈ks,r.kids.length=i.size/\r.kids.length<=1000000/\∀ c∈r.kids,Uf c.l6
theorem gW.Cr {ok ok':Nat->Prop} {w w':jf9} {a:At} {li:List ah} {ks:List au} {vc vp vl vk:jfk} (h:gW ok w a li ks vc vp vl vk) (hs:uE ok ok' w w'):gW ok' w' a li ks vc vp vl vk:=
 ⟨⟨Rd.keep hs _ _ h.at_.cls,Rd.keep hs _ _ h.at_.aH⟩,Rd.keep hs _ _ h.line,Rd.keep hs _ _ h.kids⟩
structure xZ (W0:jf9) (q:Option Nat) (w:jf9) (d:D) (vs:List jfk):Prop where
 aJ:jfj W0.heap.size W0 w
 cb:∀ p,q=some p->W0.heap.size<=p/\CB 43 p lu w
 rd:Rd (fun b=>W0.heap.size<=b/\some b≠q) w d vs
theorem xZ.far {W0 w w':jf9} {q:Option Nat} {d:D} {vs:List jfk} (h:xZ W0 q w d vs) (hb:jfj w.heap.size w w'):xZ W0 q w' d vs:=
 ⟨h.aJ.trans (hb.mono h.aJ.size),fun p hp=>⟨(h.cb p hp).1,(h.cb p hp).2.below hb⟩,h.rd.aZ hb⟩
theorem xZ.nd {W0 w w':jf9} {q:Option Nat} {d d':D} {vs vs':List jfk} (h:xZ W0 q w d vs) (hb:jfj w.heap.size w w') (hr:Rd (w.heap.size<=·) w' d' vs'):xZ W0 q w' d' vs':=
 ⟨(h.far hb).aJ,(h.far hb).cb,hr.weaken (fun b hk=>⟨jc9 h.aJ.size hk,fun e=>by have:=(h.cb b e.symm).2.lt;omega⟩)⟩
theorem xZ.zero {W0 w:jf9} {d:D} {vs:List jfk} (h:xZ W0 none w d vs):xZ W0 (some w.heap.size) (w.alloc (.cells #[.string ⟨#[]⟩,.string ⟨#[]⟩,.slice none 0 0,.slice none 0 0] 43)) d vs:=by refine ⟨h.aJ.alloc h.aJ.size _,fun p hp=>?_,Rd.keep (fun b hb hlt=>⟨⟨hb.1,fun e=>by have:=jd0 e;omega⟩,jd2 w _ b hlt⟩) _ _ h.rd⟩;obtain rfl:=jd0 hp;exact ⟨h.aJ.size,CB.new _ lu w⟩
theorem Di {w:jf9} {g:Nat} {cs:List jfk} (h:CB 43 g cs w) (hl:cs.length=4):w.ownsRow g 43 4 (.slice (some ⟨g,0,none⟩) 1 1) 1 ([cs]:List (List jfk)).flatten:=by
 refine ⟨by simp [hl],.inr ⟨g,1,cs.toArray,rfl,jc8 _,h,by simp,by unfold maxLen;omega,?_,?_⟩⟩
 ·simp [hl]
 ·rw [<- hl];simp
theorem xZ.lit {W0 w:jf9} {q:Option Nat} {x:Nd} {c0 c1 c2 c3:jfk} (h:xZ W0 q w x.d [c0,c1,c2,c3]):xZ W0 q (w.alloc (.cells #[c0,c1,c2,c3] 43)) (bU [x]) [.slice (some ⟨w.heap.size,0,none⟩) 1 1]:=by
 have hb:jfj w.heap.size w (w.alloc (.cells #[c0,c1,c2,c3] 43)):=(jc7 _ _).alloc (jc8 _) _;have h2:=h.far hb;refine ⟨h2.aJ,h2.cb,Rd.fZ (l:=[x.d]) (rows:=[[c0,c1,c2,c3]]) (Di (CB.new _ [c0,c1,c2,c3] w) rfl) (aO.one h2.rd) (by simp) (fun g hg=>?_)⟩;have e1:w.heap.size=g:=by simpa [Value.ownBlock] using hg
 exact ⟨by rw [<- e1];exact h.aJ.size,fun e=>by have:=(h.cb g e.symm).2.lt;omega⟩
theorem xZ.el {W0 w w':jf9} {q:Option Nat} {ks:List Nd} {v:jfk} (h:xZ W0 q w (bU ks) [v]) (hb:jfj w.heap.size w w') (n:ByteArray):xZ W0 q w' (aL n [] ks).d [.string n,.string ⟨#[]⟩,.slice none 0 0,v]:=
 ⟨(h.far hb).aJ,(h.far hb).cb,Nd.fK n ⟨#[]⟩ ⟨Rd.ay _ _ _,(h.far hb).rd⟩⟩
structure Ob (W0:jf9) (q:Option Nat) (g:Nat) (w:jf9) (d:D) (cs:List jfk):Prop where
 aJ:jfj W0.heap.size W0 w
 cb:∀ p,q=some p->W0.heap.size<=p/\CB 43 p lu w
 hg:W0.heap.size<=g/\some g≠q
 cg:CB 43 g cs w
 rd:Rd (fun b=>(W0.heap.size<=b/\some b≠q)/\b≠g) w d cs
theorem Ob.far {W0 w w':jf9} {q:Option Nat} {g:Nat} {d:D} {vs:List jfk} (h:Ob W0 q g w d vs) (hb:jfj w.heap.size w w'):Ob W0 q g w' d vs:=
 ⟨h.aJ.trans (hb.mono h.aJ.size),fun p hp=>⟨(h.cb p hp).1,(h.cb p hp).2.below hb⟩,h.hg,h.cg.below hb,h.rd.aZ hb⟩
theorem Ob.zero {W0 w:jf9} {g:Nat} {d:D} {vs:List jfk} (h:Ob W0 none g w d vs):Ob W0 (some w.heap.size) g (w.alloc (.cells #[.string ⟨#[]⟩,.string ⟨#[]⟩,.slice none 0 0,.slice none 0 0] 43)) d vs:=by refine ⟨h.aJ.alloc h.aJ.size _,fun p hp=>?_,⟨h.hg.1,fun e=>by have:=jd0 e;have:=h.cg.lt;omega⟩,h.cg.below ((jc7 _ _).alloc (jc8 _) _),Rd.keep (fun b hb hlt=>⟨⟨⟨hb.1.1,fun e=>by have:=jd0 e;omega⟩,hb.2⟩,jd2 w _ b hlt⟩) _ _ h.rd⟩;obtain rfl:=jd0 hp;exact ⟨h.aJ.size,CB.new _ lu w⟩
theorem xZ.Lb {W0 w:jf9} {q:Option Nat} {x:Nd} {c0 c1 c2 c3:jfk} (h:xZ W0 q w x.d [c0,c1,c2,c3]):Ob W0 q w.heap.size (w.alloc (.cells #[c0,c1,c2,c3] 43)) x.d [c0,c1,c2,c3]:=by have hb:jfj w.heap.size w (w.alloc (.cells #[c0,c1,c2,c3] 43)):=(jc7 _ _).alloc (jc8 _) _;have h2:=h.far hb;exact ⟨h2.aJ,h2.cb,⟨h.aJ.size,fun e=>by have:=(h.cb _ e.symm).2.lt;omega⟩,CB.new _ [c0,c1,c2,c3] w,Rd.keep (fun b hk hlt=>⟨⟨hk,by omega⟩,hb.block b hlt⟩) _ _ h.rd⟩
structure Vw (W0:jf9) (q g:Nat) (w:jf9) (d:D) (cs:List jfk) (cq:List jfk):Prop where
 aJ:jfj W0.heap.size W0 w
 hq:W0.heap.size<=q
 cq:CB 43 q cq w
 hg:W0.heap.size<=g/\g≠q
 cg:CB 43 g cs w
 rd:Rd (fun b=>W0.heap.size<=b/\b≠q/\b≠g) w d cs
theorem Ob.put {W0 w:jf9} {g q:Nat} {d:D} {cs:List jfk} (h:Ob W0 (some q) g w d cs) (c0 c1 c2 c3:jfk):Vw W0 q g (bZ w q c0 c1 c2 c3) d cs [c0,c1,c2,c3]:=by
 have h1:=(h.cb q rfl);have hgq:g≠q:=fun e=>h.hg.2 (by rw [e])
 exact ⟨uN h.aJ h1.1 _ _ _ _,h1.1,GA h1.2 _ _ _ _,⟨h.hg.1,hgq⟩,(mV w q c0 c1 c2 c3 g hgq).trans h.cg,Rd.keep (fun b hb hlt=>⟨⟨hb.1.1,fun e=>hb.1.2 (by rw [e]),hb.2⟩,mV w q c0 c1 c2 c3 b (fun e=>hb.1.2 (by rw [e]))⟩) _ _ h.rd⟩
theorem Vw.far {W0 w w':jf9} {q g:Nat} {d:D} {cs cq:List jfk} (h:Vw W0 q g w d cs cq) (hb:jfj w.heap.size w w'):Vw W0 q g w' d cs cq:=
 ⟨h.aJ.trans (hb.mono h.aJ.size),h.hq,h.cq.below hb,h.hg,h.cg.below hb,h.rd.aZ hb⟩
section
variable {T:TypeId} {k:Nat} {ds:List D} {rows:List (List jfk)} {v:jfk} {w:jf9}
theorem yJ {n:Nat} {ops:Array Oper} {o:Oper} {a:Act} {K:Act->jf9->Prop} {Q:Exit->Act->jf9->Prop} {E:Prop} (hgd:o.guard=none) (s x:Operand) (t:TypeId) (ho:o.op=.call { callee:=.builtin .append,args:=#[s,x],argTypes:=#[t,t] }) (i:TypeInfo) (z:jfk) (bytes:Nat) (ht:Tryz.prog.underlying t=some (.slice T)) (hi:Tryz.prog.info? T=some i) (hz:i.zero=some z) (hsize:i.size=k) (hby:i.bytes=bytes) (hzs:z.cells.size=k) (hsz:0<k) {B:Nat} {P:Nat->Prop} (hown:w.ownsRow B T k v ds.length rows.flatten) (hB:B<=w.heap.size) (hrd:aO P w ds rows) (hlen:∀ r∈rows,r.length=k) (hP:∀ b,P b->v.ownBlock≠some b) (d:D) (r:List jfk) (hx:Rd P w d r) (hr:r.length=k) (h1:∀ u∈r,u.oneCell'=true) (hdn:ds.length=n) (hn:n<=10000000) (lX:bytes<=1000) (hs:a.eval s=v) (hxe:a.eval x=.slice (some ⟨w.heap.size,0,none⟩) 1 1) (hK:∀ a' c' w',Rd (fun b=>P b\/v.ownBlock=some b\/w.heap.size<=b) w' (.sl k (ds++[d])) [.slice a' (n+1) c']->(w.alloc (.cells r.toArray T)).grownBy w' v.ownBlock->K (a.put o.dst (.slice a' (n+1) c')) w') : if Region.wanted o (yielded ops a.tmps)=true then Oper.wp Tryz.prog o a (w.alloc (.cells r.toArray T)) K Q else E:=by
 subst hdn;have hmul:(ds.length+1)*bytes<=140737488355328:=jc9 (Nat.mul_le_mul (show ds.length+1<=10000001 by omega) lX) (by omega);refine step_append_lies _ hgd s x t ho B T i z k bytes ht hi hz hsize hby hzs hsz v ds.length rows.flatten hs (hown.alloc _) ⟨w.heap.size,0,none⟩ 1 1 r hxe (by omega) (Mi w r T) h1 (by omega) (by unfold maxLen;omega) hmul (by simp;omega) (w.heap.size+1) (by simp) ?_;intro g cap w' hown hg hat _;have hh:∀ b,P b->b<w.heap.size->w'.heap[b]?=w.heap[b]?:=fun b hb hlt=>(hg.block b (by simp;omega) (fun e=>hP b hb e.symm)).trans (jd2 w _ b hlt)
 have C8:aO (fun b=>P b\/v.ownBlock=some b\/w.heap.size<=b) w' (ds++[d]) (rows++[r]):=aO.app (aO.keep (fun b hb hlt=>⟨.inl hb,hh b hb hlt⟩) _ _ hrd) (aO.one (Rd.keep (fun b hb hlt=>⟨.inl hb,hh b hb hlt⟩) _ _ hx));have pW:∀ q∈rows++[r],q.length=k:=fun q hq=>(List.mem_append.1 hq).elim (hlen q) (fun h=>by rw [List.mem_singleton.1 h];exact hr)
 have hown2:w'.ownsRow B T k (.slice (some ⟨g,0,none⟩) (ds.length+1) cap) (ds++[d]).length (rows++[r]).flatten:=by rw [List.length_append,List.length_singleton,List.flatten_append];simpa using hown
 refine hK _ _ w' (Rd.fZ hown2 C8 pW (fun g' hg'=>?_)) hg;have e1:g=g':=by simpa [Value.ownBlock] using hg'
 subst e1;exact hat.elim (fun e=>.inr (.inl e)) (fun e=>.inr (.inr (by omega)))
end
theorem Vx {g b n c:Nat} (h:(Value.slice (some ⟨g,0,none⟩) n c).ownBlock=some b):b=g:=by
 have e:g=b:=by simpa [Value.ownBlock] using h
 exact e.symm
def Af (w1:jf9) (i:ByteArray) (rs:List au) (v vi:jfk) (wr:jf9):Prop:=
 ∃ (k:Nat) (rows:List (List jfk)),k<=rs.length/\vi=.int .i64 k/\aI 43 4 (fun _=>False) wr.heap.size w1 (((rs.take k).map (jI tL i)).map Nd.d) rows v wr
theorem ED (k lv:Int) (i t d ti:ByteArray) (at_:At) (li:List ah) (ks:List au) (vc vp vl vk:jfk) (w:jf9) (hR:gW (·<w.heap.size) w at_ li ks vc vp vl vk) (hT:XY i ks) : Calls Tryz.prog 160 #[.agg #[.int .i64 k,.int .i64 lv,.string i,.string t,.string d,.string ti,.string at_.id,vc,vp,vl,vk]] w (mU w (dM i ks)):=by
 obtain ⟨ac,nc,cc,rfl⟩:=Rd.aj hR.at_.cls
 obtain ⟨ap,np,cp,rfl⟩:=Rd.aj hR.at_.aH
 obtain ⟨al,nl,cl,rfl⟩:=Rd.aj hR.line;obtain ⟨ak,ck,hvk,hs⟩:=Rd.aD hR.kids;obtain ⟨nk,hnk⟩:∃ nk,nk=ks.length:=⟨_,rfl⟩;obtain rfl:vk=.slice ak nk ck:=by rw [hnk];simpa using hvk
 obtain ⟨x0,rs,rfl⟩:∃ x0 rs,ks=x0::rs:=by
  cases ks with
  | nil=>exact absurd rfl hT.ne
  | cons a b=>exact ⟨a,b,rfl⟩
 have hcap:nk<=ck:=by have:=hs.le;rw [jcx] at this;omega
 have hmx:=hs.max;unfold maxLen at hmx;have Vy:nk=rs.length+1:=by rw [hnk,List.length_cons]
 have Ui:nk<=900000:=by have:=hT.len;omega
 obtain ⟨S,W0,hS,hW0,z0,k0,k1,b0⟩:=pF 30 w [.int .i64 k,.int .i64 lv,.string i,.string t,.string d,.string ti,.string at_.id,.slice ac nc cc,.slice ap np cp,.slice al nl cl,.slice ak nk ck];have hs2:oK (·<S) W0 11 ((x0::rs).map au.d) ak ck:=by subst hS;exact hs.below b0
 have hT0:=hT.row x0 (List.mem_cons_self ..);have hTR:=fun r hr=>hT.row r (List.mem_cons_of_mem _ hr)
 obtain ⟨xk,Oc,xi,xt,xd,Od,Oe,Tn,pI⟩:=x0;obtain ⟨ga,off,xvc,xvp,xvl,xvk,rfl,hok,hbl,hc,hR0⟩:=gy (k:=0) hs2 rfl;obtain ⟨Y3,Y4,Y5,rfl⟩:=Rd.aj hR0.at_.cls
 obtain ⟨Y6,Y7,Y8,rfl⟩:=Rd.aj hR0.at_.aH
 obtain ⟨Y9,Za,Zb,rfl⟩:=Rd.aj hR0.line;obtain ⟨Zc,Zd,Ze,rfl⟩:=Rd.aj hR0.kids;have hc:=show dI W0 ga off xk Oc xi xt xd Od Oe.id (.slice Y3 Y4 Y5) (.slice Y6 Y7 Y8) (.slice Y9 Za Zb) (.slice Zc Zd Ze) by simpa using hc
 have CX:Hid (∀ w':jf9,jfj W0.heap.size W0 w'->w'.cell? ⟨S,2,none⟩=some (.string i)/\w'.cell? ⟨S,10,none⟩=some (.slice (some ⟨ga,off,none⟩) nk ck)/\dI w' ga off xk Oc xi xt xd Od Oe.id (.slice Y3 Y4 Y5) (.slice Y6 Y7 Y8) (.slice Y9 Za Zb) (.slice Zc Zd Ze)):=fun w' hb=>
  ⟨(k0.below hb).cell 2 _ rfl,(k0.below hb).cell 10 _ rfl,hc.at2 (hb.block ga hbl)⟩
 have RC:Hid (∀ w':jf9,jfj W0.heap.size W0 w'->Calls Tryz.prog 201 #[.agg #[.int .i64 xk,.int .i64 Oc,.string xi,.string xt,.string xd,.string Od,.string Oe.id,.slice Y3 Y4 Y5,.slice Y6 Y7 Y8,.slice Y9 Za Zb,.slice Zc Zd Ze],.string ⟨#[116,104]⟩,.string i] w' (mU w' (aL mo [] (ko wM i.data.toList pI)))):=fun w' hb=>
  CQ xk Oc xi xt xd Od Oe Tn pI _ _ _ _ wM i w' (gW.Cr hR0 (fun b (hb':b<S) hlt=>⟨by show b<w'.heap.size;have:=hb.size;omega,hb.block b (by omega)⟩)) hT0.1 hT0.2.1 hT0.2.2
 have HS2:=hid hs2;have EM:=hid hS;have HW0:=hid hW0;have Z0:=hid z0;have B0:=hid b0;have K1:=hid k1;have Tp:=hid hTR;have yh:=hid Vy;have jb7:0<nk:=by omega
 have jb8:(0:Int)<(nk:Int):=by omega
 clear hR hvk hs hs2 hS hW0 z0 k0 k1 b0 hc hT0 hTR hT hnk Vy hR0;go_enter Tryz.func160,Tryz.ntmps160;go_upto_region 1 with (fail)
 rw [<- EM.out];have hk0:=HW0.out;simp only [lu] at hk0;rw [<- hk0];clear hk0
 go_cut [3] (fun s3 wx=>∃ q g f,s3=.pointer (some ⟨q,0,none⟩)/\Vw W0 q g wx (aL xG [] [aL mo [] (ko wM i.data.toList pI)]).d [.string ⟨#[116,104,101,97,100]⟩,.string ⟨#[]⟩,.slice none 0 0,.slice (some ⟨f,0,none⟩) 1 1] [.string ⟨#[116,97,98,108,101]⟩,.string ⟨#[]⟩,.slice none 0 0,.slice (some ⟨g,0,none⟩) 1 1])
 case first=>
  refine gJ 12 (fun w'=>jfj W0.heap.size W0 w') (by kernel_rfl) (jc7 _ _).drew ?_;intro hH;refine lY (i:=0) (v:=?_) rfl (by kernel_rfl) (by kernel_rfl) (by kernel_rfl) (by kernel_rfl) (by kernel_rfl) (fun _ _ _ h=>h) hH (Or.inl ⟨by rfl,?_⟩) ?_;rotate_left
  ·(intro wv hSw;obtain ⟨e2,e10,c0,c1,c2,c3,c4,c5,c6,c7,c8,c9,c10⟩:=CX.out wv hSw;go_simp;try with_reducible rfl)
  try simp only [Act.put,jc3,jc4,jc5]
  refine lY (i:=1) (v:=?_) rfl (by kernel_rfl) (by kernel_rfl) (by kernel_rfl) (by kernel_rfl) (by kernel_rfl) (fun _ _ _ h=>h) hH (Or.inl ⟨by rfl,?_⟩) ?_;rotate_left
  ·(intro wv hSw;obtain ⟨e2,e10,c0,c1,c2,c3,c4,c5,c6,c7,c8,c9,c10⟩:=CX.out wv hSw;go_simp;try with_reducible rfl)
  try simp only [Act.put,jc3,jc4,jc5]
  refine lY (i:=2) (v:=?_) rfl (by kernel_rfl) (by kernel_rfl) (by kernel_rfl) (by kernel_rfl) (by kernel_rfl) (fun _ _ _ h=>h) hH (Or.inl ⟨by rfl,?_⟩) ?_;rotate_left
  ·(intro wv hSw;obtain ⟨e2,e10,c0,c1,c2,c3,c4,c5,c6,c7,c8,c9,c10⟩:=CX.out wv hSw;go_simp;try with_reducible rfl)
  try simp only [Act.put,jc3,jc4,jc5]
  refine lY (i:=3) (v:=?_) rfl (by kernel_rfl) (by kernel_rfl) (by kernel_rfl) (by kernel_rfl) (by kernel_rfl) (fun _ _ _ h=>h) hH (Or.inl ⟨by rfl,?_⟩) ?_;rotate_left
  ·(intro wv hSw;obtain ⟨e2,e10,c0,c1,c2,c3,c4,c5,c6,c7,c8,c9,c10⟩:=CX.out wv hSw;go_simp;try with_reducible rfl)
  try simp only [Act.put,jc3,jc4,jc5]
  refine lY (i:=4) (v:=?_) rfl (by kernel_rfl) (by kernel_rfl) (by kernel_rfl) (by kernel_rfl) (by kernel_rfl) (fun _ _ _ h=>h) hH (Or.inl ⟨by rfl,?_⟩) ?_;rotate_left
  ·(intro wv hSw;obtain ⟨e2,e10,c0,c1,c2,c3,c4,c5,c6,c7,c8,c9,c10⟩:=CX.out wv hSw;go_simp;try with_reducible rfl)
  try simp only [Act.put,jc3,jc4,jc5]
  refine lY (i:=5) (v:=?_) rfl (by kernel_rfl) (by kernel_rfl) (by kernel_rfl) (by kernel_rfl) (by kernel_rfl) (fun _ _ _ h=>h) hH (Or.inl ⟨by rfl,?_⟩) ?_;rotate_left
  ·(intro wv hSw;obtain ⟨e2,e10,c0,c1,c2,c3,c4,c5,c6,c7,c8,c9,c10⟩:=CX.out wv hSw;go_simp;try with_reducible rfl)
  try simp only [Act.put,jc3,jc4,jc5]
  obtain ⟨y0,hy0⟩:∃ y0,y0=W0.drew:=⟨_,rfl⟩;rw [<- hy0] at hH;rw [<- hy0];clear hy0;have Vz:Hid (xZ W0 none y0 (bU []) [.slice none 0 0]):=⟨hH,fun p hp=>by simp at hp,Rd.ay _ _ _⟩;refine xw (i:=6) (j:=11) rfl rfl (by kernel_rfl) (fun KQ hK=>?_) (fun KQ hK=>?_)
  ·go_simp;go_at_call 201
   (with_reducible refine (RC.out y0 Vz.out.aJ).mono ?_)
   rintro e y1 ⟨va,vk,he,hR,hb⟩;obtain ⟨aA,nA,cA,rfl⟩:=Rd.aj hR.at_
   obtain ⟨aK,nK,cK,rfl⟩:=Rd.aj hR.ks;have he:e=.returned (.agg #[.string mo,.string ⟨#[]⟩,.slice aA nA cA,.slice aK nK cK]):=he;subst he;have Lc:=hid (Vz.out.nd hb (Nd.fK mo ⟨#[]⟩ hR));clear hb hR;refine hK.out _ _ (fun _ _=>Lc.out.aJ) (fun hH2=>?_);clear hK KQ hH;have hH:=hH2 (by decide) (by kernel_rfl);clear hH2;try simp only [Act.put,jc3,jc4,jc5]
   clear Vz;refine xw (i:=7) (j:=11) rfl rfl (by kernel_rfl) (fun KQ hK=>?_) (fun KQ hK=>?_)
   ·go_simp;obtain ⟨y2,hN⟩:∃ y2,y2=y1.alloc (.cells #[.string mo,.string ⟨#[]⟩,.slice aA nA cA,.slice aK nK cK] 43):=⟨_,rfl⟩;obtain ⟨f,hf⟩:∃ f,f=y1.heap.size:=⟨_,rfl⟩;have Fh:=hid Lc.out.lit;rw [<- hN,<- hf] at Fh;rw [<- hN,<- hf];clear hN hf;refine hK.out _ _ (fun _ _=>Fh.out.aJ) (fun hH2=>?_);clear hK KQ hH;have hH:=hH2 (by decide) (by kernel_rfl);clear hH2;try simp only [Act.put,jc3,jc4,jc5]
    clear Lc;refine xw (i:=8) (j:=11) rfl rfl (by kernel_rfl) (fun KQ hK=>?_) (fun KQ hK=>?_)
    ·go_simp;go_at_call 57
     (with_reducible refine (gL ⟨#[116,104,101,97,100]⟩ none (some ⟨f,0,none⟩) 0 1 0 1 y2).mono ?_)
     rintro e y3 ⟨rfl,hb⟩;have yK:=hid (Fh.out.el hb ⟨#[116,104,101,97,100]⟩);clear hb;refine hK.out _ _ (fun _ _=>yK.out.aJ) (fun hH2=>?_);clear hK KQ hH;have hH:=hH2 (by decide) (by kernel_rfl);clear hH2;try simp only [Act.put,jc3,jc4,jc5]
     clear Fh;refine xw (i:=9) (j:=11) rfl rfl (by kernel_rfl) (fun KQ hK=>?_) (fun KQ hK=>?_)
     ·go_simp;obtain ⟨y4,hN⟩:∃ y4,y4=y3.alloc (.cells #[.string ⟨#[116,104,101,97,100]⟩,.string ⟨#[]⟩,.slice none 0 0,.slice (some ⟨f,0,none⟩) 1 1] 43):=⟨_,rfl⟩;obtain ⟨g,hf⟩:∃ g,g=y3.heap.size:=⟨_,rfl⟩;have vI:=hid yK.out.Lb;rw [<- hN,<- hf] at vI;rw [<- hN,<- hf];clear hN hf;refine hK.out _ _ (fun _ _=>vI.out.aJ) (fun hH2=>?_);clear hK KQ hH;have hH:=hH2 (by decide) (by kernel_rfl);clear hH2;try simp only [Act.put,jc3,jc4,jc5]
      clear yK;refine xw (i:=10) (j:=11) rfl rfl (by kernel_rfl) (fun KQ hK=>?_) (fun KQ hK=>?_)
      ·go_simp;go_at_call 57
       (with_reducible refine (gL ⟨#[116,97,98,108,101]⟩ none (some ⟨g,0,none⟩) 0 1 0 1 y4).mono ?_)
       rintro e y5 ⟨rfl,hb⟩;have qA:=hid (vI.out.far hb);clear hb;refine hK.out _ _ (fun _ _=>qA.out.aJ) (fun hH2=>?_);clear hK KQ hH;have hH:=hH2 (by decide) (by kernel_rfl);clear hH2;try simp only [Act.put,jc3,jc4,jc5]
       clear vI;refine q01 (i:=11) rfl (by kernel_rfl) (fun KQ hK=>?_);go_simp;obtain ⟨y6,hN⟩:∃ y6,y6=y5.alloc (.cells #[.string ⟨#[]⟩,.string ⟨#[]⟩,.slice none 0 0,.slice none 0 0] 43):=⟨_,rfl⟩;obtain ⟨q,hf⟩:∃ q,q=y5.heap.size:=⟨_,rfl⟩;have tN:=hid qA.out.zero;rw [<- hN,<- hf] at tN;rw [<- hN,<- hf];clear hN hf;refine hK.out _ _ (fun _ _=>tN.out.aJ) (fun hH2=>?_);clear hK KQ hH;have hH:=hH2 (by decide) (by kernel_rfl);clear hH2;try simp only [Act.put,jc3,jc4,jc5]
       clear qA;refine q01 (i:=12) rfl (by kernel_rfl) (fun KQ hK=>?_);obtain ⟨x0,x1,x2,x3,xf⟩:=gX (tN.out.cb q rfl).2;go_simp;have HJ:=hid (tN.out.put (.string ⟨#[116,97,98,108,101]⟩) (.string ⟨#[]⟩) (.slice none 0 0) (.slice (some ⟨g,0,none⟩) 1 1));clear x0 x1 x2 x3 xf;refine hK.out _ _ (fun h=>absurd rfl h) (fun _=>?_);clear hK KQ hH;try simp only [Act.put,jc3,jc4,jc5]
       refine rQ (by kernel_rfl) ?_ _;go_wp2
       go_meet
       exact ⟨q,g,f,rfl,HJ.out⟩
      ·go_simp;obtain ⟨y5,hN⟩:∃ y5,y5=y4.alloc (.cells #[.string ⟨#[]⟩,.string ⟨#[]⟩,.slice none 0 0,.slice none 0 0] 43):=⟨_,rfl⟩;obtain ⟨q,hf⟩:∃ q,q=y4.heap.size:=⟨_,rfl⟩;have qA:=hid vI.out.zero;rw [<- hN,<- hf] at qA;rw [<- hN,<- hf];clear hN hf;refine hK.out _ _ (fun _ _=>qA.out.aJ) (fun hH2=>?_);clear hK KQ hH;have hH:=hH2 (by decide) (by kernel_rfl);clear hH2;try simp only [Act.put,jc3,jc4,jc5]
       clear vI;refine q01 (i:=10) rfl (by kernel_rfl) (fun KQ hK=>?_);go_simp;go_at_call 57
       (with_reducible refine (gL ⟨#[116,97,98,108,101]⟩ none (some ⟨g,0,none⟩) 0 1 0 1 y5).mono ?_)
       rintro e y6 ⟨rfl,hb⟩;have tN:=hid (qA.out.far hb);clear hb;refine hK.out _ _ (fun _ _=>tN.out.aJ) (fun hH2=>?_);clear hK KQ hH;have hH:=hH2 (by decide) (by kernel_rfl);clear hH2;try simp only [Act.put,jc3,jc4,jc5]
       clear qA;refine q01 (i:=12) rfl (by kernel_rfl) (fun KQ hK=>?_);obtain ⟨x0,x1,x2,x3,xf⟩:=gX (tN.out.cb q rfl).2;go_simp;have HJ:=hid (tN.out.put (.string ⟨#[116,97,98,108,101]⟩) (.string ⟨#[]⟩) (.slice none 0 0) (.slice (some ⟨g,0,none⟩) 1 1));clear x0 x1 x2 x3 xf;refine hK.out _ _ (fun h=>absurd rfl h) (fun _=>?_);clear hK KQ hH;try simp only [Act.put,jc3,jc4,jc5]
       refine rQ (by kernel_rfl) ?_ _;go_wp2
       go_meet
       exact ⟨q,g,f,rfl,HJ.out⟩
     ·go_simp;obtain ⟨y4,hN⟩:∃ y4,y4=y3.alloc (.cells #[.string ⟨#[]⟩,.string ⟨#[]⟩,.slice none 0 0,.slice none 0 0] 43):=⟨_,rfl⟩;obtain ⟨q,hf⟩:∃ q,q=y3.heap.size:=⟨_,rfl⟩;have vI:=hid yK.out.zero;rw [<- hN,<- hf] at vI;rw [<- hN,<- hf];clear hN hf;refine hK.out _ _ (fun _ _=>vI.out.aJ) (fun hH2=>?_);clear hK KQ hH;have hH:=hH2 (by decide) (by kernel_rfl);clear hH2;try simp only [Act.put,jc3,jc4,jc5]
      clear yK;refine q01 (i:=9) rfl (by kernel_rfl) (fun KQ hK=>?_);go_simp;obtain ⟨y5,hN⟩:∃ y5,y5=y4.alloc (.cells #[.string ⟨#[116,104,101,97,100]⟩,.string ⟨#[]⟩,.slice none 0 0,.slice (some ⟨f,0,none⟩) 1 1] 43):=⟨_,rfl⟩;obtain ⟨g,hf⟩:∃ g,g=y4.heap.size:=⟨_,rfl⟩;have qA:=hid vI.out.Lb;rw [<- hN,<- hf] at qA;rw [<- hN,<- hf];clear hN hf;refine hK.out _ _ (fun _ _=>qA.out.aJ) (fun hH2=>?_);clear hK KQ hH;have hH:=hH2 (by decide) (by kernel_rfl);clear hH2;try simp only [Act.put,jc3,jc4,jc5]
      clear vI;refine q01 (i:=10) rfl (by kernel_rfl) (fun KQ hK=>?_);go_simp;go_at_call 57
      (with_reducible refine (gL ⟨#[116,97,98,108,101]⟩ none (some ⟨g,0,none⟩) 0 1 0 1 y5).mono ?_)
      rintro e y6 ⟨rfl,hb⟩;have tN:=hid (qA.out.far hb);clear hb;refine hK.out _ _ (fun _ _=>tN.out.aJ) (fun hH2=>?_);clear hK KQ hH;have hH:=hH2 (by decide) (by kernel_rfl);clear hH2;try simp only [Act.put,jc3,jc4,jc5]
      clear qA;refine q01 (i:=12) rfl (by kernel_rfl) (fun KQ hK=>?_);obtain ⟨x0,x1,x2,x3,xf⟩:=gX (tN.out.cb q rfl).2;go_simp;have HJ:=hid (tN.out.put (.string ⟨#[116,97,98,108,101]⟩) (.string ⟨#[]⟩) (.slice none 0 0) (.slice (some ⟨g,0,none⟩) 1 1));clear x0 x1 x2 x3 xf;refine hK.out _ _ (fun h=>absurd rfl h) (fun _=>?_);clear hK KQ hH;try simp only [Act.put,jc3,jc4,jc5]
      refine rQ (by kernel_rfl) ?_ _;go_wp2
      go_meet
      exact ⟨q,g,f,rfl,HJ.out⟩
    ·go_simp;obtain ⟨y3,hN⟩:∃ y3,y3=y2.alloc (.cells #[.string ⟨#[]⟩,.string ⟨#[]⟩,.slice none 0 0,.slice none 0 0] 43):=⟨_,rfl⟩;obtain ⟨q,hf⟩:∃ q,q=y2.heap.size:=⟨_,rfl⟩;have yK:=hid Fh.out.zero;rw [<- hN,<- hf] at yK;rw [<- hN,<- hf];clear hN hf;refine hK.out _ _ (fun _ _=>yK.out.aJ) (fun hH2=>?_);clear hK KQ hH;have hH:=hH2 (by decide) (by kernel_rfl);clear hH2;try simp only [Act.put,jc3,jc4,jc5]
     clear Fh;refine q01 (i:=8) rfl (by kernel_rfl) (fun KQ hK=>?_);go_simp;go_at_call 57
     (with_reducible refine (gL ⟨#[116,104,101,97,100]⟩ none (some ⟨f,0,none⟩) 0 1 0 1 y3).mono ?_)
     rintro e y4 ⟨rfl,hb⟩;have vI:=hid (yK.out.el hb ⟨#[116,104,101,97,100]⟩);clear hb;refine hK.out _ _ (fun _ _=>vI.out.aJ) (fun hH2=>?_);clear hK KQ hH;have hH:=hH2 (by decide) (by kernel_rfl);clear hH2;try simp only [Act.put,jc3,jc4,jc5]
     clear yK;refine q01 (i:=9) rfl (by kernel_rfl) (fun KQ hK=>?_);go_simp;obtain ⟨y5,hN⟩:∃ y5,y5=y4.alloc (.cells #[.string ⟨#[116,104,101,97,100]⟩,.string ⟨#[]⟩,.slice none 0 0,.slice (some ⟨f,0,none⟩) 1 1] 43):=⟨_,rfl⟩;obtain ⟨g,hf⟩:∃ g,g=y4.heap.size:=⟨_,rfl⟩;have qA:=hid vI.out.Lb;rw [<- hN,<- hf] at qA;rw [<- hN,<- hf];clear hN hf;refine hK.out _ _ (fun _ _=>qA.out.aJ) (fun hH2=>?_);clear hK KQ hH;have hH:=hH2 (by decide) (by kernel_rfl);clear hH2;try simp only [Act.put,jc3,jc4,jc5]
     clear vI;refine q01 (i:=10) rfl (by kernel_rfl) (fun KQ hK=>?_);go_simp;go_at_call 57
     (with_reducible refine (gL ⟨#[116,97,98,108,101]⟩ none (some ⟨g,0,none⟩) 0 1 0 1 y5).mono ?_)
     rintro e y6 ⟨rfl,hb⟩;have tN:=hid (qA.out.far hb);clear hb;refine hK.out _ _ (fun _ _=>tN.out.aJ) (fun hH2=>?_);clear hK KQ hH;have hH:=hH2 (by decide) (by kernel_rfl);clear hH2;try simp only [Act.put,jc3,jc4,jc5]
     clear qA;refine q01 (i:=12) rfl (by kernel_rfl) (fun KQ hK=>?_);obtain ⟨x0,x1,x2,x3,xf⟩:=gX (tN.out.cb q rfl).2;go_simp;have HJ:=hid (tN.out.put (.string ⟨#[116,97,98,108,101]⟩) (.string ⟨#[]⟩) (.slice none 0 0) (.slice (some ⟨g,0,none⟩) 1 1));clear x0 x1 x2 x3 xf;refine hK.out _ _ (fun h=>absurd rfl h) (fun _=>?_);clear hK KQ hH;try simp only [Act.put,jc3,jc4,jc5]
     refine rQ (by kernel_rfl) ?_ _;go_wp2
     go_meet
     exact ⟨q,g,f,rfl,HJ.out⟩
   ·go_simp;obtain ⟨y2,hN⟩:∃ y2,y2=y1.alloc (.cells #[.string ⟨#[]⟩,.string ⟨#[]⟩,.slice none 0 0,.slice none 0 0] 43):=⟨_,rfl⟩;obtain ⟨q,hf⟩:∃ q,q=y1.heap.size:=⟨_,rfl⟩;have Fh:=hid Lc.out.zero;rw [<- hN,<- hf] at Fh;rw [<- hN,<- hf];clear hN hf;refine hK.out _ _ (fun _ _=>Fh.out.aJ) (fun hH2=>?_);clear hK KQ hH;have hH:=hH2 (by decide) (by kernel_rfl);clear hH2;try simp only [Act.put,jc3,jc4,jc5]
    clear Lc;refine q01 (i:=7) rfl (by kernel_rfl) (fun KQ hK=>?_);go_simp;obtain ⟨y3,hN⟩:∃ y3,y3=y2.alloc (.cells #[.string mo,.string ⟨#[]⟩,.slice aA nA cA,.slice aK nK cK] 43):=⟨_,rfl⟩;obtain ⟨f,hf⟩:∃ f,f=y2.heap.size:=⟨_,rfl⟩;have yK:=hid Fh.out.lit;rw [<- hN,<- hf] at yK;rw [<- hN,<- hf];clear hN hf;refine hK.out _ _ (fun _ _=>yK.out.aJ) (fun hH2=>?_);clear hK KQ hH;have hH:=hH2 (by decide) (by kernel_rfl);clear hH2;try simp only [Act.put,jc3,jc4,jc5]
    clear Fh;refine q01 (i:=8) rfl (by kernel_rfl) (fun KQ hK=>?_);go_simp;go_at_call 57
    (with_reducible refine (gL ⟨#[116,104,101,97,100]⟩ none (some ⟨f,0,none⟩) 0 1 0 1 y3).mono ?_)
    rintro e y4 ⟨rfl,hb⟩;have vI:=hid (yK.out.el hb ⟨#[116,104,101,97,100]⟩);clear hb;refine hK.out _ _ (fun _ _=>vI.out.aJ) (fun hH2=>?_);clear hK KQ hH;have hH:=hH2 (by decide) (by kernel_rfl);clear hH2;try simp only [Act.put,jc3,jc4,jc5]
    clear yK;refine q01 (i:=9) rfl (by kernel_rfl) (fun KQ hK=>?_);go_simp;obtain ⟨y5,hN⟩:∃ y5,y5=y4.alloc (.cells #[.string ⟨#[116,104,101,97,100]⟩,.string ⟨#[]⟩,.slice none 0 0,.slice (some ⟨f,0,none⟩) 1 1] 43):=⟨_,rfl⟩;obtain ⟨g,hf⟩:∃ g,g=y4.heap.size:=⟨_,rfl⟩;have qA:=hid vI.out.Lb;rw [<- hN,<- hf] at qA;rw [<- hN,<- hf];clear hN hf;refine hK.out _ _ (fun _ _=>qA.out.aJ) (fun hH2=>?_);clear hK KQ hH;have hH:=hH2 (by decide) (by kernel_rfl);clear hH2;try simp only [Act.put,jc3,jc4,jc5]
    clear vI;refine q01 (i:=10) rfl (by kernel_rfl) (fun KQ hK=>?_);go_simp;go_at_call 57
    (with_reducible refine (gL ⟨#[116,97,98,108,101]⟩ none (some ⟨g,0,none⟩) 0 1 0 1 y5).mono ?_)
    rintro e y6 ⟨rfl,hb⟩;have tN:=hid (qA.out.far hb);clear hb;refine hK.out _ _ (fun _ _=>tN.out.aJ) (fun hH2=>?_);clear hK KQ hH;have hH:=hH2 (by decide) (by kernel_rfl);clear hH2;try simp only [Act.put,jc3,jc4,jc5]
    clear qA;refine q01 (i:=12) rfl (by kernel_rfl) (fun KQ hK=>?_);obtain ⟨x0,x1,x2,x3,xf⟩:=gX (tN.out.cb q rfl).2;go_simp;have HJ:=hid (tN.out.put (.string ⟨#[116,97,98,108,101]⟩) (.string ⟨#[]⟩) (.slice none 0 0) (.slice (some ⟨g,0,none⟩) 1 1));clear x0 x1 x2 x3 xf;refine hK.out _ _ (fun h=>absurd rfl h) (fun _=>?_);clear hK KQ hH;try simp only [Act.put,jc3,jc4,jc5]
    refine rQ (by kernel_rfl) ?_ _;go_wp2
    go_meet
    exact ⟨q,g,f,rfl,HJ.out⟩
  ·go_simp;obtain ⟨y1,hN⟩:∃ y1,y1=y0.alloc (.cells #[.string ⟨#[]⟩,.string ⟨#[]⟩,.slice none 0 0,.slice none 0 0] 43):=⟨_,rfl⟩;obtain ⟨q,hf⟩:∃ q,q=y0.heap.size:=⟨_,rfl⟩;have Lc:=hid Vz.out.zero;rw [<- hN,<- hf] at Lc;rw [<- hN,<- hf];clear hN hf;refine hK.out _ _ (fun _ _=>Lc.out.aJ) (fun hH2=>?_);clear hK KQ hH;have hH:=hH2 (by decide) (by kernel_rfl);clear hH2;try simp only [Act.put,jc3,jc4,jc5]
   clear Vz;refine q01 (i:=6) rfl (by kernel_rfl) (fun KQ hK=>?_);go_simp;go_at_call 201
   (with_reducible refine (RC.out y1 Lc.out.aJ).mono ?_)
   rintro e y2 ⟨va,vk,he,hR,hb⟩;obtain ⟨aA,nA,cA,rfl⟩:=Rd.aj hR.at_
   obtain ⟨aK,nK,cK,rfl⟩:=Rd.aj hR.ks;have he:e=.returned (.agg #[.string mo,.string ⟨#[]⟩,.slice aA nA cA,.slice aK nK cK]):=he;subst he;have Fh:=hid (Lc.out.nd hb (Nd.fK mo ⟨#[]⟩ hR));clear hb hR;refine hK.out _ _ (fun _ _=>Fh.out.aJ) (fun hH2=>?_);clear hK KQ hH;have hH:=hH2 (by decide) (by kernel_rfl);clear hH2;try simp only [Act.put,jc3,jc4,jc5]
   clear Lc;refine q01 (i:=7) rfl (by kernel_rfl) (fun KQ hK=>?_);go_simp;obtain ⟨y3,hN⟩:∃ y3,y3=y2.alloc (.cells #[.string mo,.string ⟨#[]⟩,.slice aA nA cA,.slice aK nK cK] 43):=⟨_,rfl⟩;obtain ⟨f,hf⟩:∃ f,f=y2.heap.size:=⟨_,rfl⟩;have yK:=hid Fh.out.lit;rw [<- hN,<- hf] at yK;rw [<- hN,<- hf];clear hN hf;refine hK.out _ _ (fun _ _=>yK.out.aJ) (fun hH2=>?_);clear hK KQ hH;have hH:=hH2 (by decide) (by kernel_rfl);clear hH2;try simp only [Act.put,jc3,jc4,jc5]
   clear Fh;refine q01 (i:=8) rfl (by kernel_rfl) (fun KQ hK=>?_);go_simp;go_at_call 57
   (with_reducible refine (gL ⟨#[116,104,101,97,100]⟩ none (some ⟨f,0,none⟩) 0 1 0 1 y3).mono ?_)
   rintro e y4 ⟨rfl,hb⟩;have vI:=hid (yK.out.el hb ⟨#[116,104,101,97,100]⟩);clear hb;refine hK.out _ _ (fun _ _=>vI.out.aJ) (fun hH2=>?_);clear hK KQ hH;have hH:=hH2 (by decide) (by kernel_rfl);clear hH2;try simp only [Act.put,jc3,jc4,jc5]
   clear yK;refine q01 (i:=9) rfl (by kernel_rfl) (fun KQ hK=>?_);go_simp;obtain ⟨y5,hN⟩:∃ y5,y5=y4.alloc (.cells #[.string ⟨#[116,104,101,97,100]⟩,.string ⟨#[]⟩,.slice none 0 0,.slice (some ⟨f,0,none⟩) 1 1] 43):=⟨_,rfl⟩;obtain ⟨g,hf⟩:∃ g,g=y4.heap.size:=⟨_,rfl⟩;have qA:=hid vI.out.Lb;rw [<- hN,<- hf] at qA;rw [<- hN,<- hf];clear hN hf;refine hK.out _ _ (fun _ _=>qA.out.aJ) (fun hH2=>?_);clear hK KQ hH;have hH:=hH2 (by decide) (by kernel_rfl);clear hH2;try simp only [Act.put,jc3,jc4,jc5]
   clear vI;refine q01 (i:=10) rfl (by kernel_rfl) (fun KQ hK=>?_);go_simp;go_at_call 57
   (with_reducible refine (gL ⟨#[116,97,98,108,101]⟩ none (some ⟨g,0,none⟩) 0 1 0 1 y5).mono ?_)
   rintro e y6 ⟨rfl,hb⟩;have tN:=hid (qA.out.far hb);clear hb;refine hK.out _ _ (fun _ _=>tN.out.aJ) (fun hH2=>?_);clear hK KQ hH;have hH:=hH2 (by decide) (by kernel_rfl);clear hH2;try simp only [Act.put,jc3,jc4,jc5]
   clear qA;refine q01 (i:=12) rfl (by kernel_rfl) (fun KQ hK=>?_);obtain ⟨x0,x1,x2,x3,xf⟩:=gX (tN.out.cb q rfl).2;go_simp;have HJ:=hid (tN.out.put (.string ⟨#[116,97,98,108,101]⟩) (.string ⟨#[]⟩) (.slice none 0 0) (.slice (some ⟨g,0,none⟩) 1 1));clear x0 x1 x2 x3 xf;refine hK.out _ _ (fun h=>absurd rfl h) (fun _=>?_);clear hK KQ hH;try simp only [Act.put,jc3,jc4,jc5]
   refine rQ (by kernel_rfl) ?_ _;go_wp2
   go_meet
   exact ⟨q,g,f,rfl,HJ.out⟩
 case rest=>
  obtain ⟨q,g,f,rfl,hJ⟩:=hcut;obtain ⟨w1,hw1⟩:∃ w1:jf9,w1=wc:=⟨_,rfl⟩;subst hw1;have HJ:=hid hJ;obtain ⟨-,e10,-⟩:=CX.out w1 hJ.aJ;obtain ⟨iN,wG,jh,ji,jk⟩:=info_parts og;obtain ⟨nr,hnr⟩:∃ nr,nr=nk-1:=⟨_,rfl⟩;have Dj:Hid (nr=rs.length):=by have:=yh.out;show _=_;omega
  have jb9:nr<=900000:=by omega
  have R0:Hid (Af w1 i rs (.slice none 0 0) (.int .i64 0) w1):=⟨0,[],Nat.zero_le _,rfl,aI.nil _ _ _ _⟩;have hZ0:W0.heap.size=S+2:=Z0.out;clear hJ;by_cases hck:ck=1
  ·have hnz:nr=0:=by omega
   subst hck;go_upto_region 4 with (fail)
   subst hnz;clear hnr e10
   go_loopw [4,22] (fun v vi wr=>Af w1 i rs v vi wr) (fun _ vi _=>0-(intOf vi).toNat)
   case atStart=>exact R0.out
   case round=>
    clear R0;obtain ⟨j,rows,hj,rfl,hrow⟩:=hrel;obtain ⟨ds,hds⟩:∃ ds,ds=((rs.take j).map (jI tL i)).map Nd.d:=⟨_,rfl⟩;rw [<- hds] at hrow;obtain ⟨m,hm⟩:∃ m,m=ds.length:=⟨_,rfl⟩;have XZ:m<=1000000:=by have h2:(rs.take j).length<=rs.length:=List.length_take_le' _ _;rw [hm,hds,jcx,jcx];have:=Dj.out;omega
    obtain ⟨av,cv,rfl,-,-⟩:=hrow.cap hm.symm;have HM:=hid hm.symm;have xA:=hid hds;have aY:=hid hrow;clear hrow hm hds;by_cases hlt:j<0
    ·exact absurd hlt (by omega)
    ·have hkl:j=0:=by have:=Dj.out;omega
     have hjr:j=rs.length:=by have:=Dj.out;omega
     have Zf:Hid (Rd (w1.heap.size<=·) wr (bU (rs.map (jI tL i))) [.slice av m cv]):=by have h:=aY.out.eD;rw [xA.out,hjr,List.take_length] at h;exact h
     have xH:=hid (HJ.out.far aY.out.aJ);have MP:Hid (W0.heap.size<=w1.heap.size):=HJ.out.aJ.size;have Tk:Hid (q<w1.heap.size):=HJ.out.cq.lt;have Zg:Hid (g<w1.heap.size):=HJ.out.cg.lt;by_cases hm0:m=0
     ·have HE:Hid (rs=[]):=by
       have:=HM.out;rw [xA.out,hjr] at this;simp at this;exact List.length_eq_zero_iff.1 (by omega)
      subst hm0;have BL:=xH.out.aJ;have HQ:=hid xH.out.cq;have Nu:Hid (jK (W0.heap.size<=·) wr [] [aL xG [] [aL mo [] (ko wM i.data.toList pI)]] (.slice none 0 0) (.slice (some ⟨g,0,none⟩) 1 1)):=⟨Rd.ay _ _ _,Rd.fZ (l:=[(aL xG [] [aL mo [] (ko wM i.data.toList pI)]).d]) (rows:=[[.string ⟨#[116,104,101,97,100]⟩,.string ⟨#[]⟩,.slice none 0 0,.slice (some ⟨f,0,none⟩) 1 1]]) (Di xH.out.cg rfl) (aO.one (xH.out.rd.weaken (fun b hb=>hb.1))) (by simp) (fun b hb=>by
       have e1:g=b:=by simpa [Value.ownBlock] using hb
       rw [<- e1];exact xH.out.hg.1)⟩
      have RP:Hid (dM i (au.mk xk Oc xi xt xd Od Oe Tn pI::rs)=aL mD [] [aL xG [] [aL mo [] (ko wM i.data.toList pI)]]):=by show _=_;rw [HE.out];rfl
      obtain ⟨x0,x1,x2,x3,xf⟩:=gX (K1.out.below BL);obtain ⟨y0,y1,y2,y3,-⟩:=UJ HQ.out;go_upto_region 10 with (fail)
      obtain ⟨w9,aS⟩:∃ w9,w9=bZ wr (S+1) (.string ⟨#[116,97,98,108,101]⟩) (.string ⟨#[]⟩) (.slice none 0 0) (.slice (some ⟨g,0,none⟩) 1 1):=⟨_,rfl⟩;have hf:=lM ⟨#[116,97,98,108,101]⟩ ⟨#[]⟩ [] ([aL xG [] [aL mo [] (ko wM i.data.toList pI)]]) EM.out Z0.out B0.out K1.out BL Nu.out;rw [<- aS] at hf;have iy:=hid hf.1;have zM:=hid hf.2;clear hf;have hw8:=aS;simp only [bZ] at hw8;clear aS;go_wp2;rw [<- hw8];have r0:=iy.out.cell 0 _ rfl;have r1:=iy.out.cell 1 _ rfl;have r2:=iy.out.cell 2 _ rfl;have r3:=iy.out.cell 3 _ rfl;exact bodyPost_ret (v:=.agg #[.string ⟨#[116,97,98,108,101]⟩,.string ⟨#[]⟩,.slice none 0 0,.slice (some ⟨g,0,none⟩) 1 1]) (by simp [results,Tryz.results160,go_sem,r0,r1,r2,r3]) rfl (by rw [RP.out];exact zM.out)
     ·have hm1:0<m:=by omega
      have HE:Hid (rs.isEmpty=false):=by
       show _=_;cases hrs:rs with
       | nil=>
        have:=HM.out;rw [xA.out,hrs] at this;simp at this;omega
       | cons _ _=>rfl
      have S0:wr.drew.cell? ⟨q,3,none⟩=some (.slice (some ⟨g,0,none⟩) 1 1):=xH.out.cq.cell 3 _ rfl;have RP:Hid (dM i (au.mk xk Oc xi xt xd Od Oe Tn pI::rs)=aL mD [] [aL xG [] [aL mo [] (ko wM i.data.toList pI)],aL kT [] (rs.map (jI tL i))]):=by show aL mD [] (aL xG [] [aL mo [] (ko wM i.data.toList pI)]::if rs.isEmpty=true then [] else [aL kT [] (rs.map (jI tL i))])=_;rw [HE.out];rfl
      clear hkl hjr hm0;go_upto_region 9 with (fail)
      refine q22 7 (fun w'=>w'.cell? ⟨q,3,none⟩=some (.slice (some ⟨g,0,none⟩) 1 1)) (by kernel_rfl) S0 ?_;intro hH;refine ou (i:=0) (v:=?_) rfl (by kernel_rfl) (by kernel_rfl) (by kernel_rfl) (by kernel_rfl) (fun _ _ _ h=>h) hH (Or.inl ⟨by rfl,?_⟩) ?_;rotate_left
      ·(intro wv hSw;(try dsimp only at hSw);go_simp;try with_reducible rfl)
      try simp only [Act.put,jc3,jc4,jc5]
      refine ou (i:=1) (v:=?_) rfl (by kernel_rfl) (by kernel_rfl) (by kernel_rfl) (by kernel_rfl) (fun _ _ _ h=>h) hH (Or.inl ⟨by rfl,?_⟩) ?_;rotate_left
      ·(intro wv hSw;(try dsimp only at hSw);go_simp;try with_reducible rfl)
      try simp only [Act.put,jc3,jc4,jc5]
      refine ou (i:=2) (v:=?_) rfl (by kernel_rfl) (by kernel_rfl) (by kernel_rfl) (by kernel_rfl) (fun _ _ _ h=>h) hH (Or.inl ⟨by rfl,?_⟩) ?_;rotate_left
      ·(intro wv hSw;(try dsimp only at hSw);go_simp;try with_reducible rfl)
      try simp only [Act.put,jc3,jc4,jc5]
      refine lF (i:=3) rfl (by kernel_rfl) (fun KQ hK=>?_);go_simp;go_at_call 57
      (with_reducible refine (gL ⟨#[116,98,111,100,121]⟩ none av 0 m 0 cv _).mono ?_)
      rintro e w3 ⟨rfl,b3⟩;have B3:jfj wr.heap.size wr w3:=((jc7 _ _).drew).trans b3;have qd:=hid (xH.out.far B3);have S3:w3.cell? ⟨q,3,none⟩=some (.slice (some ⟨g,0,none⟩) 1 1):=qd.out.cq.cell 3 _ rfl;have XD:=hid (show Rd (fun b=>w1.heap.size<=b) w3 (aL ⟨#[116,98,111,100,121]⟩ [] (rs.map (jI tL i))).d [.string ⟨#[116,98,111,100,121]⟩,.string ⟨#[]⟩,.slice none 0 0,.slice av m cv] from Nd.fK ⟨#[116,98,111,100,121]⟩ ⟨#[]⟩ ⟨Rd.ay _ _ _,Zf.out.aZ B3⟩);have HB3:=hid B3;clear b3 B3 S0;refine hK.out _ _ (fun _=>S3) (fun hH2=>?_);clear hK KQ hH;have hH:=hH2 (by decide);clear hH2;try simp only [Act.put,jc3,jc4,jc5]
      refine lF (i:=4) rfl (by kernel_rfl) (fun KQ hK=>?_);go_simp;refine hK.out _ _ (fun _=>past S3 _) (fun hH2=>?_);clear hK KQ hH;have hH:=hH2 (by decide);clear hH2;try simp only [Act.put,jc3,jc4,jc5]
      refine lF (i:=5) rfl (by kernel_rfl) (fun KQ hK=>?_);refine yJ (n:=1) rfl (.tmp 38) (.tmp 41) 34 rfl iN _ 80 Tryz.underlying34 wG jh ji jk rfl (by decide) (ds:=[(aL xG [] [aL mo [] (ko wM i.data.toList pI)]).d]) (rows:=[[.string ⟨#[116,104,101,97,100]⟩,.string ⟨#[]⟩,.slice none 0 0,.slice (some ⟨f,0,none⟩) 1 1]]) (v:=.slice (some ⟨g,0,none⟩) 1 1) (P:=fun b=>W0.heap.size<=b/\b≠q/\b≠g) (Di qd.out.cg rfl) (Nat.le_of_lt qd.out.cg.lt) (aO.one qd.out.rd) (by simp) (fun b hb e=>hb.2.2 (Vx e)) (aL ⟨#[116,98,111,100,121]⟩ [] (rs.map (jI tL i))).d [.string ⟨#[116,98,111,100,121]⟩,.string ⟨#[]⟩,.slice none 0 0,.slice av m cv] (XD.out.weaken (fun b hb=>⟨jc9 MP.out hb,by have:=Tk.out;omega,by have:=Zg.out;omega⟩)) rfl fE rfl (by decide) (by decide) rfl rfl ?_;intro a5 c5 w5 Fj hg5;have hgb:(Value.slice (some ⟨g,0,none⟩) 1 1).ownBlock=some g:=rfl;rw [hgb] at hg5 Fj;have q5:CB 43 q [.string ⟨#[116,97,98,108,101]⟩,.string ⟨#[]⟩,.slice none 0 0,.slice (some ⟨g,0,none⟩) 1 1] w5:=(hg5.block q (by simp;have:=qd.out.cq.lt;omega) (fun e=>qd.out.hg.2 (jd0 e).symm)).trans ((jd2 w3 _ q qd.out.cq.lt).trans qd.out.cq);have S5:w5.cell? ⟨q,3,none⟩=some (.slice (some ⟨g,0,none⟩) 1 1):=q5.cell 3 _ rfl;have fz:=l8 q5;have VB:jfj W0.heap.size w3 w5:=((jc7 _ w3).alloc qd.out.aJ.size _).grown hg5 (by simp;have:=qd.out.aJ.size;omega) (fun x hx=>by have:=jd0 hx;have:=qd.out.hg.1;omega);have H9:=hid (qd.out.aJ.trans VB);have Ld:=hid Fj;have EN:=hid q5;have hq3:q<w3.heap.size:=qd.out.cq.lt;clear Fj hg5 hgb VB XD q5;refine hK.out _ _ (fun _=>S5) (fun hH2=>?_);clear hK KQ hH;have hH:=hH2 (by decide);clear hH2;try simp only [Act.put,jc3,jc4,jc5]
      refine lF (i:=6) rfl (by kernel_rfl) (fun KQ hK=>?_);go_simp;refine hK.out _ _ (fun _=>S5) (fun hH2=>?_);clear hK KQ hH;have hH:=hH2 (by decide);clear hH2;try simp only [Act.put,jc3,jc4,jc5]
      refine lF (i:=7) rfl (by kernel_rfl) (fun KQ hK=>?_);go_simp;refine hK.out _ _ (fun h=>absurd rfl h) (fun _=>?_);clear hK KQ;refine Rk (by kernel_rfl) ?_ _;obtain ⟨w6,dh⟩:∃ w6,w6=w5.setCell ⟨q,3,none⟩ (.slice a5 (1+1) c5):=⟨_,rfl⟩;try simp only [Nat.reduceAdd] at dh
      rw [<- dh];have HQ:Hid (CB 43 q [.string ⟨#[116,97,98,108,101]⟩,.string ⟨#[]⟩,.slice none 0 0,.slice a5 2 c5] w6):=by rw [dh];exact nO EN.out 3 _
      have BL:jfj W0.heap.size W0 w6:=by rw [dh];exact H9.out.setCell xH.out.hq _
      have Nu:Hid (jK (W0.heap.size<=·) w6 [] [aL xG [] [aL mo [] (ko wM i.data.toList pI)],aL kT [] (rs.map (jI tL i))] (.slice none 0 0) (.slice a5 2 c5)):=⟨Rd.ay _ _ _,by
       rw [dh];refine Rd.keep (fun b hb hlt=>⟨?_,Below.heap_setCell w5 ⟨q,3,none⟩ _ b ?_⟩) _ _ Ld.out
       ·rcases hb with hb | hb | hb
        ·exact hb.1
        ·have:=jd0 hb;have:=xH.out.hg.1;omega
        ·have:=qd.out.aJ.size;omega
       ·show b≠q;rcases hb with hb | hb | hb
        ·exact hb.2.1
        ·have:=jd0 hb;have:=xH.out.hg.2;omega
        ·omega⟩
      clear dh Ld S3 S5 fz hH;obtain ⟨x0,x1,x2,x3,xf⟩:=gX (K1.out.below BL);obtain ⟨y0,y1,y2,y3,-⟩:=UJ HQ.out;go_upto_region 10 with (fail)
      obtain ⟨w9,aS⟩:∃ w9,w9=bZ w6 (S+1) (.string ⟨#[116,97,98,108,101]⟩) (.string ⟨#[]⟩) (.slice none 0 0) (.slice a5 2 c5):=⟨_,rfl⟩;have hf:=lM ⟨#[116,97,98,108,101]⟩ ⟨#[]⟩ [] ([aL xG [] [aL mo [] (ko wM i.data.toList pI)],aL kT [] (rs.map (jI tL i))]) EM.out Z0.out B0.out K1.out BL Nu.out;rw [<- aS] at hf;have iy:=hid hf.1;have zM:=hid hf.2;clear hf;have hw8:=aS;simp only [bZ] at hw8;clear aS;go_wp2;rw [<- hw8];have r0:=iy.out.cell 0 _ rfl;have r1:=iy.out.cell 1 _ rfl;have r2:=iy.out.cell 2 _ rfl;have r3:=iy.out.cell 3 _ rfl;exact bodyPost_ret (v:=.agg #[.string ⟨#[116,97,98,108,101]⟩,.string ⟨#[]⟩,.slice none 0 0,.slice a5 2 c5]) (by simp [results,Tryz.results160,go_sem,r0,r1,r2,r3]) rfl (by rw [RP.out];exact zM.out)
  ·obtain ⟨ck2,VD⟩:∃ ck2,ck2=ck-1:=⟨_,rfl⟩;go_upto_region 4 with (fail)
   rw [<- hnr,<- VD];have hcc:nr<=ck2:=by omega
   clear hnr e10 VD hck
   go_loopw [4,22] (fun v vi wr=>Af w1 i rs v vi wr) (fun _ vi _=>nr-(intOf vi).toNat)
   case atStart=>exact R0.out
   case round=>
    clear R0;obtain ⟨j,rows,hj,rfl,hrow⟩:=hrel;obtain ⟨ds,hds⟩:∃ ds,ds=((rs.take j).map (jI tL i)).map Nd.d:=⟨_,rfl⟩;rw [<- hds] at hrow;obtain ⟨m,hm⟩:∃ m,m=ds.length:=⟨_,rfl⟩;have XZ:m<=1000000:=by have h2:(rs.take j).length<=rs.length:=List.length_take_le' _ _;rw [hm,hds,jcx,jcx];have:=Dj.out;omega
    obtain ⟨av,cv,rfl,-,-⟩:=hrow.cap hm.symm;have HM:=hid hm.symm;have xA:=hid hds;have aY:=hid hrow;clear hrow hm hds;by_cases hlt:j<nr
    ·obtain ⟨y,hy⟩:∃ y,rs[j]?=some y:=⟨_,List.getElem?_eq_getElem (by have:=Dj.out;omega)⟩;have hsn:=pK (jI tL i) rs j y hy;have hw:=Tp.out y (List.mem_of_getElem? hy);obtain ⟨yk,Cv,yi,yt,yd,AX,AY,sQ,AZ⟩:=y;have hw:AZ.length=i.size/\AZ.length<=1000000/\∀ c∈AZ,Uf c.l6:=hw;obtain ⟨g2,off2,vc,vp,vl,vk,hge,hok2,RQ,hc2,hR2⟩:=gy (k:=j+1) HS2.out (show (au.mk xk Oc xi xt xd Od Oe Tn pI::rs)[j+1]?=some (.mk yk Cv yi yt yd AX AY sQ AZ) by simpa using hy);obtain ⟨rfl,rfl⟩:ga=g2/\off=off2:=by simpa using hge
     have hbr:jfj W0.heap.size W0 wr:=HJ.out.aJ.trans (aY.out.aJ.mono HJ.out.aJ.size);have hc2:dI W0 ga (off+11+j*11) yk Cv yi yt yd AX AY.id vc vp vl vk:=by rw [show off+11+j*11=off+(j+1)*11 by omega];exact hc2
     obtain ⟨c0,c1,c2,c3,c4,c5,c6,c7,c8,c9,c10⟩:=hc2.at2 (w':=wr) (hbr.block ga hbl);obtain ⟨Gr,Gs,Gt,rfl⟩:=Rd.aj hR2.at_.cls
     obtain ⟨Gu,Gv,Gw,rfl⟩:=Rd.aj hR2.at_.aH
     obtain ⟨kI,kJ,kK,rfl⟩:=Rd.aj hR2.line;obtain ⟨Gx,Gy,Gz,rfl⟩:=Rd.aj hR2.kids;have RC2:Hid (∀ w':jf9,jfj W0.heap.size W0 w'->Calls Tryz.prog 201 #[.agg #[.int .i64 yk,.int .i64 Cv,.string yi,.string yt,.string yd,.string AX,.string AY.id,.slice Gr Gs Gt,.slice Gu Gv Gw,.slice kI kJ kK,.slice Gx Gy Gz],.string ⟨#[116,100]⟩,.string i] w' (mU w' (aL mo [] (ko tL i.data.toList AZ)))):=fun w' hb=>
      CQ yk Cv yi yt yd AX AY sQ AZ _ _ _ _ tL i w' (gW.Cr hR2 (fun b (hb':b<S) hlt=>⟨by show b<w'.heap.size;have:=hb.size;omega,hb.block b (by omega)⟩)) hw.1 hw.2.1 hw.2.2
     have kE:=hid (show ((rs.take (j+1)).map (jI tL i)).map Nd.d=ds++[(aL mo [] (ko tL i.data.toList AZ)).d] by rw [hsn,List.map_append,xA.out];rfl);have HBR:=hid hbr;clear hy hsn hw hge hok2 RQ hc2 hR2 hbr;go_upto_region 6 with (fail)
     obtain ⟨p,hp⟩:∃ p,p=wr.heap.size:=⟨_,rfl⟩;obtain ⟨wA,gQ⟩:∃ wA,wA=wr.alloc (.cells #[.int .i64 yk,.int .i64 Cv,.string yi,.string yt,.string yd,.string AX,.string AY.id,.slice Gr Gs Gt,.slice Gu Gv Gw,.slice kI kJ kK,.slice Gx Gy Gz] 30):=⟨_,rfl⟩;have PA:CB 30 p [.int .i64 yk,.int .i64 Cv,.string yi,.string yt,.string yd,.string AX,.string AY.id,.slice Gr Gs Gt,.slice Gu Gv Gw,.slice kI kJ kK,.slice Gx Gy Gz] wA:=by rw [gQ,hp];exact CB.new _ _ wr
     have bA:jfj wr.heap.size wr wA:=by rw [gQ];exact (jc7 _ _).alloc (jc8 _) _
     rw [<- gQ,<- hp];have BA:=hid bA;have SQ:jfj W0.heap.size W0 wA:=HBR.out.trans (bA.mono HBR.out.size);obtain ⟨e2,-,-⟩:=CX.out wA SQ;have d0:=PA.cell 0 _ rfl;have d1:=PA.cell 1 _ rfl;have d2:=PA.cell 2 _ rfl;have d3:=PA.cell 3 _ rfl;have d4:=PA.cell 4 _ rfl;have d5:=PA.cell 5 _ rfl;have d6:=PA.cell 6 _ rfl;have d7:=PA.cell 7 _ rfl;have d8:=PA.cell 8 _ rfl;have d9:=PA.cell 9 _ rfl;have d10:=PA.cell 10 _ rfl;have Uk:=hid (RC2.out wA SQ);have hpw:wr.heap.size<=wA.heap.size:=bA.size;clear gQ hp c0 c1 c2 c3 c4 c5 c6 c7 c8 c9 c10 PA bA SQ RC2;go_wp2_with fail
     (with_reducible refine Uk.out.mono ?_)
     rintro e w2 ⟨va,vk,he,hR2,hb2⟩;obtain ⟨aA,nA,cA,rfl⟩:=Rd.aj hR2.at_
     obtain ⟨aK,nK,cK,rfl⟩:=Rd.aj hR2.ks;have he:e=.returned (.agg #[.string mo,.string ⟨#[]⟩,.slice aA nA cA,.slice aK nK cK]):=he;subst he;have U2:=hid ((aY.out.below BA.out).below hb2);have XD:=hid ((Nd.fK mo ⟨#[]⟩ hR2).weaken (ok':=fun b=>False\/wr.heap.size<=b) (fun b hb=>.inr (jc9 hpw hb)));clear Uk hR2 hb2 d0 d1 d2 d3 d4 d5 d6 d7 d8 d9 d10 e2;go_wp2_with (at_builtin;refine iV rfl _ _ 34 rfl iN _ 80 Tryz.underlying34 wG jh ji jk rfl (by decide) U2.out (fun _=>False.elim) (aL mo [] (ko tL i.data.toList AZ)).d [.string mo,.string ⟨#[]⟩,.slice aA nA cA,.slice aK nK cK] XD.out rfl fE HM.out (by omega) (by decide) rfl rfl ?_)
     intro a' c' w5 hrow hg5;have HF:Hid (Af w1 i rs (.slice a' (m+1) c') (.int .i64 ((j+1:Nat):Int)) w5):=⟨j+1,_,by have:=Dj.out;omega,rfl,by rw [kE.out];exact hrow⟩;clear hrow hg5 XD U2 aY;go_wp2;go_roundw;case rel=>exact HF.out
     case measure=>simp [intOf];omega
    ·have hkl:j=nr:=by have:=Dj.out;omega
     have hjr:j=rs.length:=by have:=Dj.out;omega
     have Zf:Hid (Rd (w1.heap.size<=·) wr (bU (rs.map (jI tL i))) [.slice av m cv]):=by have h:=aY.out.eD;rw [xA.out,hjr,List.take_length] at h;exact h
     have xH:=hid (HJ.out.far aY.out.aJ);have MP:Hid (W0.heap.size<=w1.heap.size):=HJ.out.aJ.size;have Tk:Hid (q<w1.heap.size):=HJ.out.cq.lt;have Zg:Hid (g<w1.heap.size):=HJ.out.cg.lt;by_cases hm0:m=0
     ·have HE:Hid (rs=[]):=by
       have:=HM.out;rw [xA.out,hjr] at this;simp at this;exact List.length_eq_zero_iff.1 (by omega)
      subst hm0;have BL:=xH.out.aJ;have HQ:=hid xH.out.cq;have Nu:Hid (jK (W0.heap.size<=·) wr [] [aL xG [] [aL mo [] (ko wM i.data.toList pI)]] (.slice none 0 0) (.slice (some ⟨g,0,none⟩) 1 1)):=⟨Rd.ay _ _ _,Rd.fZ (l:=[(aL xG [] [aL mo [] (ko wM i.data.toList pI)]).d]) (rows:=[[.string ⟨#[116,104,101,97,100]⟩,.string ⟨#[]⟩,.slice none 0 0,.slice (some ⟨f,0,none⟩) 1 1]]) (Di xH.out.cg rfl) (aO.one (xH.out.rd.weaken (fun b hb=>hb.1))) (by simp) (fun b hb=>by
       have e1:g=b:=by simpa [Value.ownBlock] using hb
       rw [<- e1];exact xH.out.hg.1)⟩
      have RP:Hid (dM i (au.mk xk Oc xi xt xd Od Oe Tn pI::rs)=aL mD [] [aL xG [] [aL mo [] (ko wM i.data.toList pI)]]):=by show _=_;rw [HE.out];rfl
      obtain ⟨x0,x1,x2,x3,xf⟩:=gX (K1.out.below BL);obtain ⟨y0,y1,y2,y3,-⟩:=UJ HQ.out;go_upto_region 10 with (fail)
      obtain ⟨w9,aS⟩:∃ w9,w9=bZ wr (S+1) (.string ⟨#[116,97,98,108,101]⟩) (.string ⟨#[]⟩) (.slice none 0 0) (.slice (some ⟨g,0,none⟩) 1 1):=⟨_,rfl⟩;have hf:=lM ⟨#[116,97,98,108,101]⟩ ⟨#[]⟩ [] ([aL xG [] [aL mo [] (ko wM i.data.toList pI)]]) EM.out Z0.out B0.out K1.out BL Nu.out;rw [<- aS] at hf;have iy:=hid hf.1;have zM:=hid hf.2;clear hf;have hw8:=aS;simp only [bZ] at hw8;clear aS;go_wp2;rw [<- hw8];have r0:=iy.out.cell 0 _ rfl;have r1:=iy.out.cell 1 _ rfl;have r2:=iy.out.cell 2 _ rfl;have r3:=iy.out.cell 3 _ rfl;exact bodyPost_ret (v:=.agg #[.string ⟨#[116,97,98,108,101]⟩,.string ⟨#[]⟩,.slice none 0 0,.slice (some ⟨g,0,none⟩) 1 1]) (by simp [results,Tryz.results160,go_sem,r0,r1,r2,r3]) rfl (by rw [RP.out];exact zM.out)
     ·have hm1:0<m:=by omega
      have HE:Hid (rs.isEmpty=false):=by
       show _=_;cases hrs:rs with
       | nil=>
        have:=HM.out;rw [xA.out,hrs] at this;simp at this;omega
       | cons _ _=>rfl
      have S0:wr.drew.cell? ⟨q,3,none⟩=some (.slice (some ⟨g,0,none⟩) 1 1):=xH.out.cq.cell 3 _ rfl;have RP:Hid (dM i (au.mk xk Oc xi xt xd Od Oe Tn pI::rs)=aL mD [] [aL xG [] [aL mo [] (ko wM i.data.toList pI)],aL kT [] (rs.map (jI tL i))]):=by show aL mD [] (aL xG [] [aL mo [] (ko wM i.data.toList pI)]::if rs.isEmpty=true then [] else [aL kT [] (rs.map (jI tL i))])=_;rw [HE.out];rfl
      clear hkl hjr hm0;go_upto_region 9 with (fail)
      refine q22 7 (fun w'=>w'.cell? ⟨q,3,none⟩=some (.slice (some ⟨g,0,none⟩) 1 1)) (by kernel_rfl) S0 ?_;intro hH;refine ou (i:=0) (v:=?_) rfl (by kernel_rfl) (by kernel_rfl) (by kernel_rfl) (by kernel_rfl) (fun _ _ _ h=>h) hH (Or.inl ⟨by rfl,?_⟩) ?_;rotate_left
      ·(intro wv hSw;(try dsimp only at hSw);go_simp;try with_reducible rfl)
      try simp only [Act.put,jc3,jc4,jc5]
      refine ou (i:=1) (v:=?_) rfl (by kernel_rfl) (by kernel_rfl) (by kernel_rfl) (by kernel_rfl) (fun _ _ _ h=>h) hH (Or.inl ⟨by rfl,?_⟩) ?_;rotate_left
      ·(intro wv hSw;(try dsimp only at hSw);go_simp;try with_reducible rfl)
      try simp only [Act.put,jc3,jc4,jc5]
      refine ou (i:=2) (v:=?_) rfl (by kernel_rfl) (by kernel_rfl) (by kernel_rfl) (by kernel_rfl) (fun _ _ _ h=>h) hH (Or.inl ⟨by rfl,?_⟩) ?_;rotate_left
      ·(intro wv hSw;(try dsimp only at hSw);go_simp;try with_reducible rfl)
      try simp only [Act.put,jc3,jc4,jc5]
      refine lF (i:=3) rfl (by kernel_rfl) (fun KQ hK=>?_);go_simp;go_at_call 57
      (with_reducible refine (gL ⟨#[116,98,111,100,121]⟩ none av 0 m 0 cv _).mono ?_)
      rintro e w3 ⟨rfl,b3⟩;have B3:jfj wr.heap.size wr w3:=((jc7 _ _).drew).trans b3;have qd:=hid (xH.out.far B3);have S3:w3.cell? ⟨q,3,none⟩=some (.slice (some ⟨g,0,none⟩) 1 1):=qd.out.cq.cell 3 _ rfl;have XD:=hid (show Rd (fun b=>w1.heap.size<=b) w3 (aL ⟨#[116,98,111,100,121]⟩ [] (rs.map (jI tL i))).d [.string ⟨#[116,98,111,100,121]⟩,.string ⟨#[]⟩,.slice none 0 0,.slice av m cv] from Nd.fK ⟨#[116,98,111,100,121]⟩ ⟨#[]⟩ ⟨Rd.ay _ _ _,Zf.out.aZ B3⟩);have HB3:=hid B3;clear b3 B3 S0;refine hK.out _ _ (fun _=>S3) (fun hH2=>?_);clear hK KQ hH;have hH:=hH2 (by decide);clear hH2;try simp only [Act.put,jc3,jc4,jc5]
      refine lF (i:=4) rfl (by kernel_rfl) (fun KQ hK=>?_);go_simp;refine hK.out _ _ (fun _=>past S3 _) (fun hH2=>?_);clear hK KQ hH;have hH:=hH2 (by decide);clear hH2;try simp only [Act.put,jc3,jc4,jc5]
      refine lF (i:=5) rfl (by kernel_rfl) (fun KQ hK=>?_);refine yJ (n:=1) rfl (.tmp 38) (.tmp 41) 34 rfl iN _ 80 Tryz.underlying34 wG jh ji jk rfl (by decide) (ds:=[(aL xG [] [aL mo [] (ko wM i.data.toList pI)]).d]) (rows:=[[.string ⟨#[116,104,101,97,100]⟩,.string ⟨#[]⟩,.slice none 0 0,.slice (some ⟨f,0,none⟩) 1 1]]) (v:=.slice (some ⟨g,0,none⟩) 1 1) (P:=fun b=>W0.heap.size<=b/\b≠q/\b≠g) (Di qd.out.cg rfl) (Nat.le_of_lt qd.out.cg.lt) (aO.one qd.out.rd) (by simp) (fun b hb e=>hb.2.2 (Vx e)) (aL ⟨#[116,98,111,100,121]⟩ [] (rs.map (jI tL i))).d [.string ⟨#[116,98,111,100,121]⟩,.string ⟨#[]⟩,.slice none 0 0,.slice av m cv] (XD.out.weaken (fun b hb=>⟨jc9 MP.out hb,by have:=Tk.out;omega,by have:=Zg.out;omega⟩)) rfl fE rfl (by decide) (by decide) rfl rfl ?_;intro a5 c5 w5 Fj hg5;have hgb:(Value.slice (some ⟨g,0,none⟩) 1 1).ownBlock=some g:=rfl;rw [hgb] at hg5 Fj;have q5:CB 43 q [.string ⟨#[116,97,98,108,101]⟩,.string ⟨#[]⟩,.slice none 0 0,.slice (some ⟨g,0,none⟩) 1 1] w5:=(hg5.block q (by simp;have:=qd.out.cq.lt;omega) (fun e=>qd.out.hg.2 (jd0 e).symm)).trans ((jd2 w3 _ q qd.out.cq.lt).trans qd.out.cq);have S5:w5.cell? ⟨q,3,none⟩=some (.slice (some ⟨g,0,none⟩) 1 1):=q5.cell 3 _ rfl;have fz:=l8 q5;have VB:jfj W0.heap.size w3 w5:=((jc7 _ w3).alloc qd.out.aJ.size _).grown hg5 (by simp;have:=qd.out.aJ.size;omega) (fun x hx=>by have:=jd0 hx;have:=qd.out.hg.1;omega);have H9:=hid (qd.out.aJ.trans VB);have Ld:=hid Fj;have EN:=hid q5;have hq3:q<w3.heap.size:=qd.out.cq.lt;clear Fj hg5 hgb VB XD q5;refine hK.out _ _ (fun _=>S5) (fun hH2=>?_);clear hK KQ hH;have hH:=hH2 (by decide);clear hH2;try simp only [Act.put,jc3,jc4,jc5]
      refine lF (i:=6) rfl (by kernel_rfl) (fun KQ hK=>?_);go_simp;refine hK.out _ _ (fun _=>S5) (fun hH2=>?_);clear hK KQ hH;have hH:=hH2 (by decide);clear hH2;try simp only [Act.put,jc3,jc4,jc5]
      refine lF (i:=7) rfl (by kernel_rfl) (fun KQ hK=>?_);go_simp;refine hK.out _ _ (fun h=>absurd rfl h) (fun _=>?_);clear hK KQ;refine Rk (by kernel_rfl) ?_ _;obtain ⟨w6,dh⟩:∃ w6,w6=w5.setCell ⟨q,3,none⟩ (.slice a5 (1+1) c5):=⟨_,rfl⟩;try simp only [Nat.reduceAdd] at dh
      rw [<- dh];have HQ:Hid (CB 43 q [.string ⟨#[116,97,98,108,101]⟩,.string ⟨#[]⟩,.slice none 0 0,.slice a5 2 c5] w6):=by rw [dh];exact nO EN.out 3 _
      have BL:jfj W0.heap.size W0 w6:=by rw [dh];exact H9.out.setCell xH.out.hq _
      have Nu:Hid (jK (W0.heap.size<=·) w6 [] [aL xG [] [aL mo [] (ko wM i.data.toList pI)],aL kT [] (rs.map (jI tL i))] (.slice none 0 0) (.slice a5 2 c5)):=⟨Rd.ay _ _ _,by
       rw [dh];refine Rd.keep (fun b hb hlt=>⟨?_,Below.heap_setCell w5 ⟨q,3,none⟩ _ b ?_⟩) _ _ Ld.out
       ·rcases hb with hb | hb | hb
        ·exact hb.1
        ·have:=jd0 hb;have:=xH.out.hg.1;omega
        ·have:=qd.out.aJ.size;omega
       ·show b≠q;rcases hb with hb | hb | hb
        ·exact hb.2.1
        ·have:=jd0 hb;have:=xH.out.hg.2;omega
        ·omega⟩
      clear dh Ld S3 S5 fz hH;obtain ⟨x0,x1,x2,x3,xf⟩:=gX (K1.out.below BL);obtain ⟨y0,y1,y2,y3,-⟩:=UJ HQ.out;go_upto_region 10 with (fail)
      obtain ⟨w9,aS⟩:∃ w9,w9=bZ w6 (S+1) (.string ⟨#[116,97,98,108,101]⟩) (.string ⟨#[]⟩) (.slice none 0 0) (.slice a5 2 c5):=⟨_,rfl⟩;have hf:=lM ⟨#[116,97,98,108,101]⟩ ⟨#[]⟩ [] ([aL xG [] [aL mo [] (ko wM i.data.toList pI)],aL kT [] (rs.map (jI tL i))]) EM.out Z0.out B0.out K1.out BL Nu.out;rw [<- aS] at hf;have iy:=hid hf.1;have zM:=hid hf.2;clear hf;have hw8:=aS;simp only [bZ] at hw8;clear aS;go_wp2;rw [<- hw8];have r0:=iy.out.cell 0 _ rfl;have r1:=iy.out.cell 1 _ rfl;have r2:=iy.out.cell 2 _ rfl;have r3:=iy.out.cell 3 _ rfl;exact bodyPost_ret (v:=.agg #[.string ⟨#[116,97,98,108,101]⟩,.string ⟨#[]⟩,.slice none 0 0,.slice a5 2 c5]) (by simp [results,Tryz.results160,go_sem,r0,r1,r2,r3]) rfl (by rw [RP.out];exact zM.out)
open Go.RowKit
theorem GI {ok:Nat->Prop} {w:jf9} {x y:Nd} {c0 c1 c2 c3 d0 d1 d2 d3:jfk} (hm:ok w.heap.size) (hx:Rd ok w x.d [c0,c1,c2,c3]) (hy:Rd ok w y.d [d0,d1,d2,d3]) : Rd ok (w.alloc (.cells #[c0,c1,c2,c3,d0,d1,d2,d3] 43)) (bU [x,y]) [.slice (some ⟨w.heap.size,0,none⟩) 2 2]:=by
 have hb:jfj w.heap.size w (w.alloc (.cells #[c0,c1,c2,c3,d0,d1,d2,d3] 43)):=(jc7 _ _).alloc (jc8 _) _;have k:CB 43 w.heap.size [c0,c1,c2,c3,d0,d1,d2,d3] (w.alloc (.cells #[c0,c1,c2,c3,d0,d1,d2,d3] 43)):=CB.new _ _ w;have kp:∀ {d:D} {cs:List jfk},Rd ok w d cs->Rd ok (w.alloc (.cells #[c0,c1,c2,c3,d0,d1,d2,d3] 43)) d cs:=fun h=>Rd.keep (fun b hb' hlt=>⟨hb',hb.block b hlt⟩) _ _ h
 exact Rd.slB (l:=[x,y].map Nd.d) (rows:=[[c0,c1,c2,c3],[d0,d1,d2,d3]]) (by simp) (by unfold maxLen;decide) (aO.cons (kp hx) (aO.one (kp hy))) (by simp) hm k.lt (fun j u hu=>k.cell j u (by simpa using hu))
def mh (w:jf9) (E:Nat) (x:Nd) (e:Ending) (w':jf9):Prop:=
 ∃ va vk,e=.returned (.tuple #[.agg #[.string x.nm,.string x.tx,va,vk],.int .i64 (E:Int)])/\jK (w.heap.size<=·) w' x.at_ x.ks va vk/\jfj w.heap.size w w'
theorem mh.of {w w':jf9} {E:Nat} {E':Int} {x:Nd} {v:jfk} (h:mU w x (.returned v) w') (hE:E'=(E:Int)):mh w E x (.returned (.tuple #[v,.int .i64 E'])) w':=by
 obtain ⟨va,vk,he,h1,h2⟩:=h;subst hE;injection he with he
 subst he;exact ⟨va,vk,rfl,h1,h2⟩
end Go.Proofs.YtclikfjalmcoaaaGreatDoor

