/- Contract of html.table: the node of a table. A literal of two nodes; what Page leaves. -/
import Derived.Test.YtkfnkeflalcphaaGreatDoorKHtR
set_option maxHeartbeats 8000000
set_option maxRecDepth 100000
open Go.Lib (hid)
namespace Go.Proofs.YtkfnkeflalcphaaGreatDoor
open List renaming setIfInBounds_toArray->jj4,set_cons_zero->jj5,set_cons_succ->jj6,length_map->jjz
open Go.RowKit.Below renaming refl->jj8,heap_alloc->jk3
open Nat renaming le_refl->jj9
open Option.some renaming inj->jk1
open Go renaming World->jmj,Value->jmq
open Go.RowKit renaming Below->jmk
open Go.RowKit
set_option linter.unusedVariables false
set_option linter.unusedSimpArgs false
structure TbW (i:ByteArray) (ks:List ah):Prop where
  ne:ks≠[]
  len:ks.length<=900000
  row:∀ r∈ks,r.kids.length=i.size/\r.kids.length<=1000000/\∀ c∈r.kids,Yp c.mE
theorem ku.DI {ok ok':Nat->Prop} {w w':jmj} {a:At} {li:List aj} {ks:List ah} {vc vp vl vk:jmq} (h:ku ok w a li ks vc vp vl vk) (hs:zm ok ok' w w'):ku ok' w' a li ks vc vp vl vk:=
  ⟨⟨Rd.keep hs _ _ h.at_.cls,Rd.keep hs _ _ h.at_.aJ⟩,Rd.keep hs _ _ h.line,Rd.keep hs _ _ h.kids⟩
structure yZ (W0:jmj) (q:Option Nat) (w:jmj) (d:D) (vs:List jmq):Prop where
  aP:jmk W0.heap.size W0 w
  cb:∀ p,q=some p->W0.heap.size<=p/\CB 35 p jI w
  rd:Rd (fun b=>W0.heap.size<=b/\some b≠q) w d vs
theorem yZ.far {W0 w w':jmj} {q:Option Nat} {d:D} {vs:List jmq} (h:yZ W0 q w d vs) (hb:jmk w.heap.size w w'):yZ W0 q w' d vs:=
  ⟨h.aP.trans (hb.mono h.aP.size),fun p hp=>⟨(h.cb p hp).1,(h.cb p hp).2.below hb⟩,h.rd.aZ hb⟩
theorem yZ.nd {W0 w w':jmj} {q:Option Nat} {d d':D} {vs vs':List jmq} (h:yZ W0 q w d vs) (hb:jmk w.heap.size w w') (hr:Rd (w.heap.size<=·) w' d' vs'):yZ W0 q w' d' vs':=
  ⟨(h.far hb).aP,(h.far hb).cb,hr.weaken (fun b hk=>⟨Nat.le_trans h.aP.size hk,fun e=>by have:=(h.cb b e.symm).2.lt;omega⟩)⟩
theorem yZ.zero {W0 w:jmj} {d:D} {vs:List jmq} (h:yZ W0 none w d vs):yZ W0 (some w.heap.size) (w.alloc (.cells #[.string ⟨#[]⟩,.string ⟨#[]⟩,.slice none 0 0,.slice none 0 0] 35)) d vs:=by refine ⟨h.aP.alloc h.aP.size _,fun p hp=>?_,Rd.keep (fun b hb hlt=>⟨⟨hb.1,fun e=>by have:=jk1 e;omega⟩,jk3 w _ b hlt⟩) _ _ h.rd⟩;obtain rfl:=jk1 hp;exact ⟨h.aP.size,CB.new _ jI w⟩
theorem Nj {w:jmj} {g:Nat} {cs:List jmq} (h:CB 35 g cs w) (hl:cs.length=4):w.ownsRow g 35 4 (.slice (some ⟨g,0,none⟩) 1 1) 1 ([cs]:List (List jmq)).flatten:=by
  refine ⟨by simp [hl],.inr ⟨g,1,cs.toArray,rfl,jj9 _,h,by simp,by unfold maxLen;omega,?_,?_⟩⟩
  · simp [hl]
  · rw [<- hl];simp
theorem yZ.lit {W0 w:jmj} {q:Option Nat} {x:Nd} {c0 c1 c2 c3:jmq} (h:yZ W0 q w x.d [c0,c1,c2,c3]):yZ W0 q (w.alloc (.cells #[c0,c1,c2,c3] 35)) (cZ [x]) [.slice (some ⟨w.heap.size,0,none⟩) 1 1]:=by
  have hb:jmk w.heap.size w (w.alloc (.cells #[c0,c1,c2,c3] 35)):=(jj8 _ _).alloc (jj9 _) _;have h2:=h.far hb;refine ⟨h2.aP,h2.cb,Rd.lF (l:=[x.d]) (rows:=[[c0,c1,c2,c3]]) (Nj (CB.new _ [c0,c1,c2,c3] w) rfl) (aI.one h2.rd) (by simp) (fun g hg=>?_)⟩;have e1:w.heap.size=g:=by simpa [Value.ownBlock] using hg
  exact ⟨by rw [<- e1];exact h.aP.size,fun e=>by have:=(h.cb g e.symm).2.lt;omega⟩
theorem yZ.el {W0 w w':jmj} {q:Option Nat} {ks:List Nd} {v:jmq} (h:yZ W0 q w (cZ ks) [v]) (hb:jmk w.heap.size w w') (n:ByteArray):yZ W0 q w' (aQ n [] ks).d [.string n,.string ⟨#[]⟩,.slice none 0 0,v]:=
  ⟨(h.far hb).aP,(h.far hb).cb,Nd.eu n ⟨#[]⟩ ⟨Rd.aF _ _ _,(h.far hb).rd⟩⟩
structure QU (W0:jmj) (q:Option Nat) (g:Nat) (w:jmj) (d:D) (cs:List jmq):Prop where
  aP:jmk W0.heap.size W0 w
  cb:∀ p,q=some p->W0.heap.size<=p/\CB 35 p jI w
  hg:W0.heap.size<=g/\some g≠q
  cg:CB 35 g cs w
  rd:Rd (fun b=>(W0.heap.size<=b/\some b≠q)/\b≠g) w d cs
theorem QU.far {W0 w w':jmj} {q:Option Nat} {g:Nat} {d:D} {vs:List jmq} (h:QU W0 q g w d vs) (hb:jmk w.heap.size w w'):QU W0 q g w' d vs:=
  ⟨h.aP.trans (hb.mono h.aP.size),fun p hp=>⟨(h.cb p hp).1,(h.cb p hp).2.below hb⟩,h.hg,h.cg.below hb,h.rd.aZ hb⟩
theorem QU.zero {W0 w:jmj} {g:Nat} {d:D} {vs:List jmq} (h:QU W0 none g w d vs):QU W0 (some w.heap.size) g (w.alloc (.cells #[.string ⟨#[]⟩,.string ⟨#[]⟩,.slice none 0 0,.slice none 0 0] 35)) d vs:=by refine ⟨h.aP.alloc h.aP.size _,fun p hp=>?_,⟨h.hg.1,fun e=>by have:=jk1 e;have:=h.cg.lt;omega⟩,h.cg.below ((jj8 _ _).alloc (jj9 _) _),Rd.keep (fun b hb hlt=>⟨⟨⟨hb.1.1,fun e=>by have:=jk1 e;omega⟩,hb.2⟩,jk3 w _ b hlt⟩) _ _ h.rd⟩;obtain rfl:=jk1 hp;exact ⟨h.aP.size,CB.new _ jI w⟩
theorem yZ.je1 {W0 w:jmj} {q:Option Nat} {x:Nd} {c0 c1 c2 c3:jmq} (h:yZ W0 q w x.d [c0,c1,c2,c3]):QU W0 q w.heap.size (w.alloc (.cells #[c0,c1,c2,c3] 35)) x.d [c0,c1,c2,c3]:=by have hb:jmk w.heap.size w (w.alloc (.cells #[c0,c1,c2,c3] 35)):=(jj8 _ _).alloc (jj9 _) _;have h2:=h.far hb;exact ⟨h2.aP,h2.cb,⟨h.aP.size,fun e=>by have:=(h.cb _ e.symm).2.lt;omega⟩,CB.new _ [c0,c1,c2,c3] w,Rd.keep (fun b hk hlt=>⟨⟨hk,by omega⟩,hb.block b hlt⟩) _ _ h.rd⟩
structure Zy (W0:jmj) (q g:Nat) (w:jmj) (d:D) (cs:List jmq) (cq:List jmq):Prop where
  aP:jmk W0.heap.size W0 w
  hq:W0.heap.size<=q
  cq:CB 35 q cq w
  hg:W0.heap.size<=g/\g≠q
  cg:CB 35 g cs w
  rd:Rd (fun b=>W0.heap.size<=b/\b≠q/\b≠g) w d cs
theorem QU.put {W0 w:jmj} {g q:Nat} {d:D} {cs:List jmq} (h:QU W0 (some q) g w d cs) (c0 c1 c2 c3:jmq):Zy W0 q g (four w q c0 c1 c2 c3) d cs [c0,c1,c2,c3]:=by
  have h1:=(h.cb q rfl);have Zz:g≠q:=fun e=>h.hg.2 (by rw [e])
  exact ⟨vv h.aP h1.1 _ _ _ _,h1.1,Iw h1.2 _ _ _ _,⟨h.hg.1,Zz⟩,(gQ w q c0 c1 c2 c3 g Zz).trans h.cg,Rd.keep (fun b hb hlt=>⟨⟨hb.1.1,fun e=>hb.1.2 (by rw [e]),hb.2⟩,gQ w q c0 c1 c2 c3 b (fun e=>hb.1.2 (by rw [e]))⟩) _ _ h.rd⟩
theorem Zy.far {W0 w w':jmj} {q g:Nat} {d:D} {cs cq:List jmq} (h:Zy W0 q g w d cs cq) (hb:jmk w.heap.size w w'):Zy W0 q g w' d cs cq:=
  ⟨h.aP.trans (hb.mono h.aP.size),h.hq,h.cq.below hb,h.hg,h.cg.below hb,h.rd.aZ hb⟩
section
variable {T:TypeId} {k:Nat} {ds:List D} {rows:List (List jmq)} {v:jmq} {w:jmj}
theorem J8 {n:Nat} {ops:Array Oper} {o:Oper} {a:Act} {K:Act->jmj->Prop} {Q:Exit->Act->jmj->Prop} {E:Prop} (hgd:o.guard=none) (s x:Operand) (t:TypeId) (ho:o.op=.call { callee:=.builtin .append,args:=#[s,x],argTypes:=#[t,t] }) (i:TypeInfo) (z:jmq) (bytes:Nat) (ht:Tryz.prog.underlying t=some (.slice T)) (hi:Tryz.prog.info? T=some i) (hz:i.zero=some z) (hsize:i.size=k) (hby:i.bytes=bytes) (hzs:z.cells.size=k) (hsz:0<k) {B:Nat} {P:Nat->Prop} (hown:w.ownsRow B T k v ds.length rows.flatten) (hB:B<=w.heap.size) (hrd:aI P w ds rows) (hlen:∀ r∈rows,r.length=k) (hP:∀ b,P b->v.ownBlock≠some b) (d:D) (r:List jmq) (hx:Rd P w d r) (hr:r.length=k) (h1:∀ u∈r,u.oneCell'=true) (hdn:ds.length=n) (hn:n<=10000000) (kI:bytes<=1000) (hs:a.eval s=v) (hxe:a.eval x=.slice (some ⟨w.heap.size,0,none⟩) 1 1) (hK:∀ a' c' w',Rd (fun b=>P b\/v.ownBlock=some b\/w.heap.size<=b) w' (.sl k (ds++[d])) [.slice a' (n+1) c']->(w.alloc (.cells r.toArray T)).grownBy w' v.ownBlock->K (a.put o.dst (.slice a' (n+1) c')) w') : if Region.wanted o (yielded ops a.tmps)=true then Oper.wp Tryz.prog o a (w.alloc (.cells r.toArray T)) K Q else E:=by
  subst hdn;have hmul:(ds.length+1)*bytes<=140737488355328:=Nat.le_trans (Nat.mul_le_mul (show ds.length+1<=10000001 by omega) kI) (by omega);refine step_append_lies _ hgd s x t ho B T i z k bytes ht hi hz hsize hby hzs hsz v ds.length rows.flatten hs (hown.alloc _) ⟨w.heap.size,0,none⟩ 1 1 r hxe (by omega) (Pv w r T) h1 (by omega) (by unfold maxLen;omega) hmul (by simp;omega) (w.heap.size+1) (by simp) ?_;intro g cap w' hown hg hat _;have hh:∀ b,P b->b<w.heap.size->w'.heap[b]?=w.heap[b]?:=fun b hb hlt=>(hg.block b (by simp;omega) (fun e=>hP b hb e.symm)).trans (jk3 w _ b hlt)
  have MU:aI (fun b=>P b\/v.ownBlock=some b\/w.heap.size<=b) w' (ds++[d]) (rows++[r]):=aI.app (aI.keep (fun b hb hlt=>⟨.inl hb,hh b hb hlt⟩) _ _ hrd) (aI.one (Rd.keep (fun b hb hlt=>⟨.inl hb,hh b hb hlt⟩) _ _ hx));have zB:∀ q∈rows++[r],q.length=k:=fun q hq=>(List.mem_append.1 hq).elim (hlen q) (fun h=>by rw [List.mem_singleton.1 h];exact hr)
  have hown2:w'.ownsRow B T k (.slice (some ⟨g,0,none⟩) (ds.length+1) cap) (ds++[d]).length (rows++[r]).flatten:=by rw [List.length_append,List.length_singleton,List.flatten_append];simpa using hown
  refine hK _ _ w' (Rd.lF hown2 MU zB (fun g' hg'=>?_)) hg;have e1:g=g':=by simpa [Value.ownBlock] using hg'
  subst e1;exact hat.elim (fun e=>.inr (.inl e)) (fun e=>.inr (.inr (by omega)))
end
theorem je2 {g b n c:Nat} (h:(Value.slice (some ⟨g,0,none⟩) n c).ownBlock=some b):b=g:=by
  have e:g=b:=by simpa [Value.ownBlock] using h
  exact e.symm
def Bu (w1:jmj) (i:ByteArray) (rs:List ah) (v vi:jmq) (wr:jmj):Prop:=
  ∃ (k:Nat) (rows:List (List jmq)),k<=rs.length/\vi=.int .i64 k/\aC 35 4 (fun _=>False) wr.heap.size w1 (((rs.take k).map (pY Ec i)).map Nd.d) rows v wr
theorem FN (k lv:Int) (i t d ti:ByteArray) (at_:At) (li:List aj) (ks:List ah) (vc vp vl vk:jmq) (w:jmj) (hR:ku (·<w.heap.size) w at_ li ks vc vp vl vk) (hT:TbW i ks) : Calls Tryz.prog 138 #[.agg #[.int .i64 k,.int .i64 lv,.string i,.string t,.string d,.string ti,.string at_.id,vc,vp,vl,vk]] w (rY w (eP i ks)):=by
  obtain ⟨ac,nc,cc,rfl⟩:=Rd.ay hR.at_.cls
  obtain ⟨ap,np,cp,rfl⟩:=Rd.ay hR.at_.aJ
  obtain ⟨al,nl,cl,rfl⟩:=Rd.ay hR.line;obtain ⟨ak,ck,hvk,hs⟩:=Rd.aB hR.kids;obtain ⟨nk,hnk⟩:∃ nk,nk=ks.length:=⟨_,rfl⟩;obtain rfl:vk=.slice ak nk ck:=by rw [hnk];simpa using hvk
  obtain ⟨x0,rs,rfl⟩:∃ x0 rs,ks=x0::rs:=by
    cases ks with
    | nil=>exact absurd rfl hT.ne
    | cons a b=>exact ⟨a,b,rfl⟩
  have hcap:nk<=ck:=by have:=hs.le;rw [jjz] at this;omega
  have hmx:=hs.max;unfold maxLen at hmx;have ZB:nk=rs.length+1:=by rw [hnk,List.length_cons]
  have Yr:nk<=900000:=by have:=hT.len;omega
  obtain ⟨S,W0,hS,hW0,z0,k0,k1,b0⟩:=qN 48 w [.int .i64 k,.int .i64 lv,.string i,.string t,.string d,.string ti,.string at_.id,.slice ac nc cc,.slice ap np cp,.slice al nl cl,.slice ak nk ck];have hs2:l7 (·<S) W0 11 ((x0::rs).map ah.d) ak ck:=by subst hS;exact hs.below b0
  have hT0:=hT.row x0 (List.mem_cons_self ..);have hTR:=fun r hr=>hT.row r (List.mem_cons_of_mem _ hr)
  obtain ⟨xk,VY,xi,xt,xd,VZ,V3,xli,Ct⟩:=x0;obtain ⟨ga,off,xvc,xvp,xvl,xvk,rfl,hok,hbl,hc,hR0⟩:=FR (k:=0) hs2 rfl;obtain ⟨xac,xnc,xcc,rfl⟩:=Rd.ay hR0.at_.cls
  obtain ⟨xap,xnp,xcp,rfl⟩:=Rd.ay hR0.at_.aJ
  obtain ⟨xal,xnl,xcl,rfl⟩:=Rd.ay hR0.line;obtain ⟨xak,xnk,xck,rfl⟩:=Rd.ay hR0.kids;have hc:=show cO W0 ga off xk VY xi xt xd VZ V3.id (.slice xac xnc xcc) (.slice xap xnp xcp) (.slice xal xnl xcl) (.slice xak xnk xck) by simpa using hc
  have CX:Hid (∀ w':jmj,jmk W0.heap.size W0 w'->w'.cell? ⟨S,2,none⟩=some (.string i)/\w'.cell? ⟨S,10,none⟩=some (.slice (some ⟨ga,off,none⟩) nk ck)/\cO w' ga off xk VY xi xt xd VZ V3.id (.slice xac xnc xcc) (.slice xap xnp xcp) (.slice xal xnl xcl) (.slice xak xnk xck)):=fun w' hb=>
    ⟨(k0.below hb).cell 2 _ rfl,(k0.below hb).cell 10 _ rfl,hc.at2 (hb.block ga hbl)⟩
  have RC:Hid (∀ w':jmj,jmk W0.heap.size W0 w'->Calls Tryz.prog 174 #[.agg #[.int .i64 xk,.int .i64 VY,.string xi,.string xt,.string xd,.string VZ,.string V3.id,.slice xac xnc xcc,.slice xap xnp xcp,.slice xal xnl xcl,.slice xak xnk xck],.string ⟨#[116,104]⟩,.string i] w' (rY w' (aQ xJ [] (oL J9 i.data.toList Ct)))):=fun w' hb=>
    DY xk VY xi xt xd VZ V3 xli Ct _ _ _ _ J9 i w' (ku.DI hR0 (fun b (hb':b<S) hlt=>⟨by show b<w'.heap.size;have:=hb.size;omega,hb.block b (by omega)⟩)) hT0.1 hT0.2.1 hT0.2.2
  have HS2:=hid hs2;have Cx:=hid hS;have HW0:=hid hW0;have Z0:=hid z0;have B0:=hid b0;have K1:=hid k1;have XJ:=hid hTR;have Ih:=hid ZB;have ji4:0<nk:=by omega
  have ji5:(0:Int)<(nk:Int):=by omega
  clear hR hvk hs hs2 hS hW0 z0 k0 k1 b0 hc hT0 hTR hT hnk ZB hR0;go_enter Tryz.func138,Tryz.ntmps138;go_upto_region 1 with (fail)
  rw [<- Cx.out];have hk0:=HW0.out;simp only [jI] at hk0;rw [<- hk0];clear hk0
  go_cut [3] (fun s3 wx=>∃ q g f,s3=.pointer (some ⟨q,0,none⟩)/\Zy W0 q g wx (aQ iL [] [aQ xJ [] (oL J9 i.data.toList Ct)]).d [.string ⟨#[116,104,101,97,100]⟩,.string ⟨#[]⟩,.slice none 0 0,.slice (some ⟨f,0,none⟩) 1 1] [.string ⟨#[116,97,98,108,101]⟩,.string ⟨#[]⟩,.slice none 0 0,.slice (some ⟨g,0,none⟩) 1 1])
  case first=>
    refine fB 12 (fun w'=>jmk W0.heap.size W0 w') (by kernel_rfl) (jj8 _ _).drew ?_;intro hH;refine qD 0 (v:=?_) rfl (by kernel_rfl) hH (by rfl) ?_ ?_;rotate_left
    · (intro wv hSw;obtain ⟨e2,e10,c0,c1,c2,c3,c4,c5,c6,c7,c8,c9,c10⟩:=CX.out wv hSw;go_simp;try with_reducible rfl)
    try simp only [Act.put,jj4,jj5,jj6]
    refine qD 1 (v:=?_) rfl (by kernel_rfl) hH (by rfl) ?_ ?_;rotate_left
    · (intro wv hSw;obtain ⟨e2,e10,c0,c1,c2,c3,c4,c5,c6,c7,c8,c9,c10⟩:=CX.out wv hSw;go_simp;try with_reducible rfl)
    try simp only [Act.put,jj4,jj5,jj6]
    refine qD 2 (v:=?_) rfl (by kernel_rfl) hH (by rfl) ?_ ?_;rotate_left
    · (intro wv hSw;obtain ⟨e2,e10,c0,c1,c2,c3,c4,c5,c6,c7,c8,c9,c10⟩:=CX.out wv hSw;go_simp;try with_reducible rfl)
    try simp only [Act.put,jj4,jj5,jj6]
    refine qD 3 (v:=?_) rfl (by kernel_rfl) hH (by rfl) ?_ ?_;rotate_left
    · (intro wv hSw;obtain ⟨e2,e10,c0,c1,c2,c3,c4,c5,c6,c7,c8,c9,c10⟩:=CX.out wv hSw;go_simp;try with_reducible rfl)
    try simp only [Act.put,jj4,jj5,jj6]
    refine qD 4 (v:=?_) rfl (by kernel_rfl) hH (by rfl) ?_ ?_;rotate_left
    · (intro wv hSw;obtain ⟨e2,e10,c0,c1,c2,c3,c4,c5,c6,c7,c8,c9,c10⟩:=CX.out wv hSw;go_simp;try with_reducible rfl)
    try simp only [Act.put,jj4,jj5,jj6]
    refine qD 5 (v:=?_) rfl (by kernel_rfl) hH (by rfl) ?_ ?_;rotate_left
    · (intro wv hSw;obtain ⟨e2,e10,c0,c1,c2,c3,c4,c5,c6,c7,c8,c9,c10⟩:=CX.out wv hSw;go_simp;try with_reducible rfl)
    try simp only [Act.put,jj4,jj5,jj6]
    obtain ⟨y,hy0⟩:∃ y,y=W0.drew:=⟨_,rfl⟩;rw [<- hy0] at hH;rw [<- hy0];clear hy0;have HY:Hid (yZ W0 none y (cZ []) [.slice none 0 0]):=⟨hH,fun p hp=>by simp at hp,Rd.aF _ _ _⟩;refine F8 (i:=6) (j:=11) rfl rfl (by decide +kernel) (fun KQ hK=>?_) (fun KQ hK=>?_);rotate_left;go_simp;obtain ⟨q,hf⟩:∃ q,q=y.heap.size:=⟨_,rfl⟩;have iM:=hid HY.out.zero;obtain ⟨y,hN⟩:∃ y2,y2=y.alloc (.cells #[.string ⟨#[]⟩,.string ⟨#[]⟩,.slice none 0 0,.slice none 0 0] 35):=⟨_,rfl⟩;rw [<- hN,<- hf] at iM;rw [<- hN,<- hf];clear hN hf;refine hK.out _ _ (fun _ _=>iM.out.aP) (fun hH2=>?_);clear hK KQ hH;have hH:=hH2 (by decide) (by kernel_rfl);clear hH2;try simp only [Act.put,jj4,jj5,jj6]
    clear HY;have HY:=iM;clear iM;refine q01 (i:=6) rfl (by kernel_rfl) (fun KQ hK=>?_);all_goals
      go_simp;go_at_call 174
      (with_reducible refine (RC.out _ HY.out.aP).mono ?_)
      rintro e y ⟨va,vk,he,hR,hb⟩;obtain ⟨aA,nA,cA,rfl⟩:=Rd.ay hR.at_
      obtain ⟨aK,nK,cK,rfl⟩:=Rd.ay hR.ks;have he:e=.returned (.agg #[.string xJ,.string ⟨#[]⟩,.slice aA nA cA,.slice aK nK cK]):=he;subst he;have iM:=hid (HY.out.nd hb (Nd.eu xJ ⟨#[]⟩ hR));clear hb hR;refine hK.out _ _ (fun _ _=>iM.out.aP) (fun hH2=>?_);clear hK KQ hH;have hH:=hH2 (by decide) (by kernel_rfl);clear hH2;try simp only [Act.put,jj4,jj5,jj6]
      clear HY;have HY:=iM;clear iM
    all_goals
      first
        | (refine F8 (i:=7) (j:=11) rfl rfl (by decide +kernel) (fun KQ hK=>?_) (fun KQ hK=>?_)
           rotate_left;go_simp;obtain ⟨q,hf⟩:∃ q,q=y.heap.size:=⟨_,rfl⟩;have iM:=hid HY.out.zero;obtain ⟨y,hN⟩:∃ y2,y2=y.alloc (.cells #[.string ⟨#[]⟩,.string ⟨#[]⟩,.slice none 0 0,.slice none 0 0] 35):=⟨_,rfl⟩;rw [<- hN,<- hf] at iM;rw [<- hN,<- hf];clear hN hf;refine hK.out _ _ (fun _ _=>iM.out.aP) (fun hH2=>?_);clear hK KQ hH;have hH:=hH2 (by decide) (by kernel_rfl);clear hH2;try simp only [Act.put,jj4,jj5,jj6]
           clear HY;have HY:=iM;clear iM;refine q01 (i:=7) rfl (by kernel_rfl) (fun KQ hK=>?_))
        | refine q01 (i:=7) rfl (by kernel_rfl) (fun KQ hK=>?_)
    all_goals
      go_simp;obtain ⟨f,hf⟩:∃ f,f=y.heap.size:=⟨_,rfl⟩;have iM:=hid HY.out.lit;obtain ⟨y,hN⟩:∃ y2,y2=y.alloc (.cells #[.string xJ,.string ⟨#[]⟩,.slice aA nA cA,.slice aK nK cK] 35):=⟨_,rfl⟩;rw [<- hN,<- hf] at iM;rw [<- hN,<- hf];clear hN hf;refine hK.out _ _ (fun _ _=>iM.out.aP) (fun hH2=>?_);clear hK KQ hH;have hH:=hH2 (by decide) (by kernel_rfl);clear hH2;try simp only [Act.put,jj4,jj5,jj6]
      clear HY;have HY:=iM;clear iM
    all_goals
      first
        | (refine F8 (i:=8) (j:=11) rfl rfl (by decide +kernel) (fun KQ hK=>?_) (fun KQ hK=>?_)
           rotate_left;go_simp;obtain ⟨q,hf⟩:∃ q,q=y.heap.size:=⟨_,rfl⟩;have iM:=hid HY.out.zero;obtain ⟨y,hN⟩:∃ y2,y2=y.alloc (.cells #[.string ⟨#[]⟩,.string ⟨#[]⟩,.slice none 0 0,.slice none 0 0] 35):=⟨_,rfl⟩;rw [<- hN,<- hf] at iM;rw [<- hN,<- hf];clear hN hf;refine hK.out _ _ (fun _ _=>iM.out.aP) (fun hH2=>?_);clear hK KQ hH;have hH:=hH2 (by decide) (by kernel_rfl);clear hH2;try simp only [Act.put,jj4,jj5,jj6]
           clear HY;have HY:=iM;clear iM;refine q01 (i:=8) rfl (by kernel_rfl) (fun KQ hK=>?_))
        | refine q01 (i:=8) rfl (by kernel_rfl) (fun KQ hK=>?_)
    all_goals
      go_simp;go_at_call 40
      (with_reducible refine (ko ⟨#[116,104,101,97,100]⟩ none (some ⟨f,0,none⟩) 0 1 0 1 _).mono ?_)
      rintro e y ⟨rfl,hb⟩;have iM:=hid (HY.out.el hb ⟨#[116,104,101,97,100]⟩);clear hb;refine hK.out _ _ (fun _ _=>iM.out.aP) (fun hH2=>?_);clear hK KQ hH;have hH:=hH2 (by decide) (by kernel_rfl);clear hH2;try simp only [Act.put,jj4,jj5,jj6]
      clear HY;have HY:=iM;clear iM
    all_goals
      first
        | (refine F8 (i:=9) (j:=11) rfl rfl (by decide +kernel) (fun KQ hK=>?_) (fun KQ hK=>?_)
           rotate_left;go_simp;obtain ⟨q,hf⟩:∃ q,q=y.heap.size:=⟨_,rfl⟩;have iM:=hid HY.out.zero;obtain ⟨y,hN⟩:∃ y2,y2=y.alloc (.cells #[.string ⟨#[]⟩,.string ⟨#[]⟩,.slice none 0 0,.slice none 0 0] 35):=⟨_,rfl⟩;rw [<- hN,<- hf] at iM;rw [<- hN,<- hf];clear hN hf;refine hK.out _ _ (fun _ _=>iM.out.aP) (fun hH2=>?_);clear hK KQ hH;have hH:=hH2 (by decide) (by kernel_rfl);clear hH2;try simp only [Act.put,jj4,jj5,jj6]
           clear HY;have HY:=iM;clear iM;refine q01 (i:=9) rfl (by kernel_rfl) (fun KQ hK=>?_))
        | refine q01 (i:=9) rfl (by kernel_rfl) (fun KQ hK=>?_)
    all_goals
      go_simp;obtain ⟨g,hf⟩:∃ f,f=y.heap.size:=⟨_,rfl⟩;have iM:=hid HY.out.je1;obtain ⟨y,hN⟩:∃ y2,y2=y.alloc (.cells #[.string ⟨#[116,104,101,97,100]⟩,.string ⟨#[]⟩,.slice none 0 0,.slice (some ⟨f,0,none⟩) 1 1] 35):=⟨_,rfl⟩;rw [<- hN,<- hf] at iM;rw [<- hN,<- hf];clear hN hf;refine hK.out _ _ (fun _ _=>iM.out.aP) (fun hH2=>?_);clear hK KQ hH;have hH:=hH2 (by decide) (by kernel_rfl);clear hH2;try simp only [Act.put,jj4,jj5,jj6]
      clear HY;have HY:=iM;clear iM
    all_goals
      first
        | (refine F8 (i:=10) (j:=11) rfl rfl (by decide +kernel) (fun KQ hK=>?_) (fun KQ hK=>?_)
           rotate_left;go_simp;obtain ⟨q,hf⟩:∃ q,q=y.heap.size:=⟨_,rfl⟩;have iM:=hid HY.out.zero;obtain ⟨y,hN⟩:∃ y2,y2=y.alloc (.cells #[.string ⟨#[]⟩,.string ⟨#[]⟩,.slice none 0 0,.slice none 0 0] 35):=⟨_,rfl⟩;rw [<- hN,<- hf] at iM;rw [<- hN,<- hf];clear hN hf;refine hK.out _ _ (fun _ _=>iM.out.aP) (fun hH2=>?_);clear hK KQ hH;have hH:=hH2 (by decide) (by kernel_rfl);clear hH2;try simp only [Act.put,jj4,jj5,jj6]
           clear HY;have HY:=iM;clear iM;refine q01 (i:=10) rfl (by kernel_rfl) (fun KQ hK=>?_))
        | refine q01 (i:=10) rfl (by kernel_rfl) (fun KQ hK=>?_)
    all_goals
      go_simp;go_at_call 40
      (with_reducible refine (ko ⟨#[116,97,98,108,101]⟩ none (some ⟨g,0,none⟩) 0 1 0 1 _).mono ?_)
      rintro e y ⟨rfl,hb⟩;have iM:=hid (HY.out.far hb);clear hb;refine hK.out _ _ (fun _ _=>iM.out.aP) (fun hH2=>?_);clear hK KQ hH;have hH:=hH2 (by decide) (by kernel_rfl);clear hH2;try simp only [Act.put,jj4,jj5,jj6]
      clear HY;have HY:=iM;clear iM
    all_goals
      first
        | (refine q01 (i:=11) rfl (by decide +kernel) (fun KQ hK=>?_)
           go_simp;obtain ⟨q,hf⟩:∃ q,q=y.heap.size:=⟨_,rfl⟩;have iM:=hid HY.out.zero;obtain ⟨y,hN⟩:∃ y2,y2=y.alloc (.cells #[.string ⟨#[]⟩,.string ⟨#[]⟩,.slice none 0 0,.slice none 0 0] 35):=⟨_,rfl⟩;rw [<- hN,<- hf] at iM;rw [<- hN,<- hf];clear hN hf;refine hK.out _ _ (fun _ _=>iM.out.aP) (fun hH2=>?_);clear hK KQ hH;have hH:=hH2 (by decide) (by kernel_rfl);clear hH2;try simp only [Act.put,jj4,jj5,jj6]
           clear HY;have HY:=iM;clear iM)
        | skip
    all_goals
      refine q01 (i:=12) rfl (by kernel_rfl) (fun KQ hK=>?_);obtain ⟨x0,x1,x2,x3,xf⟩:=pJ (HY.out.cb q rfl).2;go_simp;have HJ:=hid (HY.out.put (.string ⟨#[116,97,98,108,101]⟩) (.string ⟨#[]⟩) (.slice none 0 0) (.slice (some ⟨g,0,none⟩) 1 1));clear x0 x1 x2 x3 xf;refine hK.out _ _ (fun h=>absurd rfl h) (fun _=>?_);clear hK KQ hH;try simp only [Act.put,jj4,jj5,jj6]
      refine Li (by kernel_rfl) ?_ _;go_wp2
      go_meet
      exact ⟨q,g,f,rfl,HJ.out⟩
  case rest=>
    obtain ⟨q,g,f,rfl,hJ⟩:=hcut;obtain ⟨w1,hw1⟩:∃ w1:jmj,w1=wc:=⟨_,rfl⟩;subst hw1;have HJ:=hid hJ;obtain ⟨-,e10,-⟩:=CX.out w1 hJ.aP;obtain ⟨iN,Fb,nU,nV,nW⟩:=info_parts mq;obtain ⟨nr,hnr⟩:∃ nr,nr=nk-1:=⟨_,rfl⟩;have Gm:Hid (nr=rs.length):=by have:=Ih.out;show _=_;omega
    have ji6:nr<=900000:=by omega
    have R0:Hid (Bu w1 i rs (.slice none 0 0) (.int .i64 0) w1):=⟨0,[],Nat.zero_le _,rfl,aC.nil _ _ _ _⟩;have hZ0:W0.heap.size=S+2:=Z0.out;clear hJ;by_cases hck:ck=1
    case' pos=>
      have hnz:nr=0:=by omega
      subst hck;go_upto_region 4 with (fail)
      subst hnz;clear hnr e10
      go_loopw [4,22] (fun v vi wr=>Bu w1 i rs v vi wr) (fun _ vi _=>0-(intOf vi).toNat)
      case atStart=>exact R0.out
      case' round=>
        clear R0;obtain ⟨j,rows,hj,rfl,hrow⟩:=hrel;obtain ⟨ds,hds⟩:∃ ds,ds=((rs.take j).map (pY Ec i)).map Nd.d:=⟨_,rfl⟩;rw [<- hds] at hrow;obtain ⟨m,hm⟩:∃ m,m=ds.length:=⟨_,rfl⟩;have hmj:m<=1000000:=by have h2:(rs.take j).length<=rs.length:=List.length_take_le' _ _;rw [hm,hds,jjz,jjz];have:=Gm.out;omega
        obtain ⟨av,cv,rfl,-,-⟩:=hrow.cap hm.symm;have HM:=hid hm.symm;have Fa:=hid hds;have bX:=hid hrow;clear hrow hm hds;by_cases hlt:j<0
        · exact absurd hlt (by omega)
        have hkl:j=0:=by have:=Gm.out;omega
    case' neg=>
      obtain ⟨ck2,ZC⟩:∃ ck2,ck2=ck-1:=⟨_,rfl⟩;go_upto_region 4 with (fail)
      rw [<- hnr,<- ZC];have hcc:nr<=ck2:=by omega
      clear hnr e10 ZC hck
      go_loopw [4,22] (fun v vi wr=>Bu w1 i rs v vi wr) (fun _ vi _=>nr-(intOf vi).toNat)
      case atStart=>exact R0.out
      case' round=>
        clear R0;obtain ⟨j,rows,hj,rfl,hrow⟩:=hrel;obtain ⟨ds,hds⟩:∃ ds,ds=((rs.take j).map (pY Ec i)).map Nd.d:=⟨_,rfl⟩;rw [<- hds] at hrow;obtain ⟨m,hm⟩:∃ m,m=ds.length:=⟨_,rfl⟩;have hmj:m<=1000000:=by have h2:(rs.take j).length<=rs.length:=List.length_take_le' _ _;rw [hm,hds,jjz,jjz];have:=Gm.out;omega
        obtain ⟨av,cv,rfl,-,-⟩:=hrow.cap hm.symm;have HM:=hid hm.symm;have Fa:=hid hds;have bX:=hid hrow;clear hrow hm hds;by_cases hlt:j<nr
        · obtain ⟨y,hy⟩:∃ y,rs[j]?=some y:=⟨_,List.getElem?_eq_getElem (by have:=Gm.out;omega)⟩
          have hsn:=pI (pY Ec i) rs j y hy;have hw:=XJ.out y (List.mem_of_getElem? hy);obtain ⟨yk,Ii,yi,yt,yd,Ij,FQ,JQ,Ik⟩:=y;have hw:Ik.length=i.size/\Ik.length<=1000000/\∀ c∈Ik,Yp c.mE:=hw;obtain ⟨g2,off2,vc,vp,vl,vk,hge,hok2,Ka,hc2,hR2⟩:=FR (k:=j+1) HS2.out (show (ah.mk xk VY xi xt xd VZ V3 xli Ct::rs)[j+1]?=some (.mk yk Ii yi yt yd Ij FQ JQ Ik) by simpa using hy);obtain ⟨rfl,rfl⟩:ga=g2/\off=off2:=by simpa using hge
          have hbr:jmk W0.heap.size W0 wr:=HJ.out.aP.trans (bX.out.aP.mono HJ.out.aP.size);have hc2:cO W0 ga (off+11+j*11) yk Ii yi yt yd Ij FQ.id vc vp vl vk:=by rw [show off+11+j*11=off+(j+1)*11 by omega];exact hc2
          obtain ⟨c0,c1,c2,c3,c4,c5,c6,c7,c8,c9,c10⟩:=hc2.at2 (w':=wr) (hbr.block ga hbl);obtain ⟨L9,Ma,Mc,rfl⟩:=Rd.ay hR2.at_.cls
          obtain ⟨Md,Me,Mf,rfl⟩:=Rd.ay hR2.at_.aJ
          obtain ⟨Co,Cq,Cr,rfl⟩:=Rd.ay hR2.line;obtain ⟨Mg,Mh,Mi,rfl⟩:=Rd.ay hR2.kids;have RC2:Hid (∀ w':jmj,jmk W0.heap.size W0 w'->Calls Tryz.prog 174 #[.agg #[.int .i64 yk,.int .i64 Ii,.string yi,.string yt,.string yd,.string Ij,.string FQ.id,.slice L9 Ma Mc,.slice Md Me Mf,.slice Co Cq Cr,.slice Mg Mh Mi],.string ⟨#[116,100]⟩,.string i] w' (rY w' (aQ xJ [] (oL Ec i.data.toList Ik)))):=fun w' hb=>
            DY yk Ii yi yt yd Ij FQ JQ Ik _ _ _ _ Ec i w' (ku.DI hR2 (fun b (hb':b<S) hlt=>⟨by show b<w'.heap.size;have:=hb.size;omega,hb.block b (by omega)⟩)) hw.1 hw.2.1 hw.2.2
          have xC:=hid (show ((rs.take (j+1)).map (pY Ec i)).map Nd.d=ds++[(aQ xJ [] (oL Ec i.data.toList Ik)).d] by rw [hsn,List.map_append,Fa.out];rfl);have ZE:=hid hbr;clear hy hsn hw hge hok2 Ka hc2 hR2 hbr;go_upto_region 6 with (fail)
          obtain ⟨p,hp⟩:∃ p,p=wr.heap.size:=⟨_,rfl⟩;obtain ⟨wA,iF⟩:∃ wA,wA=wr.alloc (.cells #[.int .i64 yk,.int .i64 Ii,.string yi,.string yt,.string yd,.string Ij,.string FQ.id,.slice L9 Ma Mc,.slice Md Me Mf,.slice Co Cq Cr,.slice Mg Mh Mi] 48):=⟨_,rfl⟩;have PA:CB 48 p [.int .i64 yk,.int .i64 Ii,.string yi,.string yt,.string yd,.string Ij,.string FQ.id,.slice L9 Ma Mc,.slice Md Me Mf,.slice Co Cq Cr,.slice Mg Mh Mi] wA:=by rw [iF,hp];exact CB.new _ _ wr
          have bA:jmk wr.heap.size wr wA:=by rw [iF];exact (jj8 _ _).alloc (jj9 _) _
          rw [<- iF,<- hp];have BA:=hid bA;have Xq:jmk W0.heap.size W0 wA:=ZE.out.trans (bA.mono ZE.out.size);obtain ⟨e2,-,-⟩:=CX.out wA Xq;have d0:=PA.cell 0 _ rfl;have d1:=PA.cell 1 _ rfl;have d2:=PA.cell 2 _ rfl;have d3:=PA.cell 3 _ rfl;have d4:=PA.cell 4 _ rfl;have d5:=PA.cell 5 _ rfl;have d6:=PA.cell 6 _ rfl;have d7:=PA.cell 7 _ rfl;have d8:=PA.cell 8 _ rfl;have d9:=PA.cell 9 _ rfl;have d10:=PA.cell 10 _ rfl;have Yu:=hid (RC2.out wA Xq);have hpw:wr.heap.size<=wA.heap.size:=bA.size;clear iF hp c0 c1 c2 c3 c4 c5 c6 c7 c8 c9 c10 PA bA Xq RC2;go_wp2_with fail
          (with_reducible refine Yu.out.mono ?_)
          rintro e w2 ⟨va,vk,he,hR2,hb2⟩;obtain ⟨aA,nA,cA,rfl⟩:=Rd.ay hR2.at_
          obtain ⟨aK,nK,cK,rfl⟩:=Rd.ay hR2.ks;have he:e=.returned (.agg #[.string xJ,.string ⟨#[]⟩,.slice aA nA cA,.slice aK nK cK]):=he;subst he;have U2:=hid ((bX.out.below BA.out).below hb2);have XD:=hid ((Nd.eu xJ ⟨#[]⟩ hR2).weaken (ok':=fun b=>False\/wr.heap.size<=b) (fun b hb=>.inr (Nat.le_trans hpw hb)));clear Yu hR2 hb2 d0 d1 d2 d3 d4 d5 d6 d7 d8 d9 d10 e2;go_wp2_with (at_builtin;refine Sv rfl _ _ 28 rfl iN _ 80 Tryz.underlying28 Fb nU nV nW rfl (by decide) U2.out (fun _=>False.elim) (aQ xJ [] (oL Ec i.data.toList Ik)).d [.string xJ,.string ⟨#[]⟩,.slice aA nA cA,.slice aK nK cK] XD.out rfl jJ HM.out (by omega) (by decide) rfl rfl ?_)
          intro a' c' w5 hrow hg5;have HF:Hid (Bu w1 i rs (.slice a' (m+1) c') (.int .i64 ((j+1:Nat):Int)) w5):=⟨j+1,_,by have:=Gm.out;omega,rfl,by rw [xC.out];exact hrow⟩;clear hrow hg5 XD U2 bX;go_wp2;go_roundw;case rel=>exact HF.out
          case measure=>simp [intOf];omega
        have hkl:j=nr:=by have:=Gm.out;omega
    all_goals
      have hjr:j=rs.length:=by have:=Gm.out;omega
      have TI:Hid (Rd (w1.heap.size<=·) wr (cZ (rs.map (pY Ec i))) [.slice av m cv]):=by have h:=bX.out.fu;rw [Fa.out,hjr,List.take_length] at h;exact h
      have PG:=hid (HJ.out.far bX.out.aP);have Uz:Hid (W0.heap.size<=w1.heap.size):=HJ.out.aP.size;have V4:Hid (q<w1.heap.size):=HJ.out.cq.lt;have HG1:Hid (g<w1.heap.size):=HJ.out.cg.lt;by_cases hm0:m=0
      · have HE:Hid (rs=[]):=by
          have:=HM.out;rw [Fa.out,hjr] at this;simp at this;exact List.length_eq_zero_iff.1 (by omega)
        subst hm0;have BL:=PG.out.aP;have HQ:=hid PG.out.cq;have YO:Hid (kU (W0.heap.size<=·) wr [] [aQ iL [] [aQ xJ [] (oL J9 i.data.toList Ct)]] (.slice none 0 0) (.slice (some ⟨g,0,none⟩) 1 1)):=⟨Rd.aF _ _ _,Rd.lF (l:=[(aQ iL [] [aQ xJ [] (oL J9 i.data.toList Ct)]).d]) (rows:=[[.string ⟨#[116,104,101,97,100]⟩,.string ⟨#[]⟩,.slice none 0 0,.slice (some ⟨f,0,none⟩) 1 1]]) (Nj PG.out.cg rfl) (aI.one (PG.out.rd.weaken (fun b hb=>hb.1))) (by simp) (fun b hb=>by
          have e1:g=b:=by simpa [Value.ownBlock] using hb
          rw [<- e1];exact PG.out.hg.1)⟩
        have HTE:Hid (eP i (ah.mk xk VY xi xt xd VZ V3 xli Ct::rs)=aQ vU [] [aQ iL [] [aQ xJ [] (oL J9 i.data.toList Ct)]]):=by show _=_;rw [HE.out];rfl
        obtain ⟨x0,x1,x2,x3,xf⟩:=pJ (K1.out.below BL);obtain ⟨y0,y1,y2,y3,-⟩:=cb4 HQ.out;go_upto_region 10 with (fail)
        obtain ⟨w9,bO⟩:∃ w9,w9=four wr (S+1) (.string ⟨#[116,97,98,108,101]⟩) (.string ⟨#[]⟩) (.slice none 0 0) (.slice (some ⟨g,0,none⟩) 1 1):=⟨_,rfl⟩;have hf:=fA ⟨#[116,97,98,108,101]⟩ ⟨#[]⟩ [] ([aQ iL [] [aQ xJ [] (oL J9 i.data.toList Ct)]]) Cx.out Z0.out B0.out K1.out BL YO.out;rw [<- bO] at hf;have iW:=hid hf.1;have Ba:=hid hf.2;clear hf;have hw8:=bO;simp only [four] at hw8;clear bO;go_wp2;rw [<- hw8];have r0:=iW.out.cell 0 _ rfl;have r1:=iW.out.cell 1 _ rfl;have r2:=iW.out.cell 2 _ rfl;have r3:=iW.out.cell 3 _ rfl;exact bodyPost_ret (v:=.agg #[.string ⟨#[116,97,98,108,101]⟩,.string ⟨#[]⟩,.slice none 0 0,.slice (some ⟨g,0,none⟩) 1 1]) (by simp [results,Tryz.results138,go_sem,r0,r1,r2,r3]) rfl (by rw [HTE.out];exact Ba.out)
      · have hm1:0<m:=by omega
        have HE:Hid (rs.isEmpty=false):=by
          show _=_;cases hrs:rs with
          | nil=>
            have:=HM.out;rw [Fa.out,hrs] at this;simp at this;omega
          | cons _ _=>rfl
        have S0:wr.drew.cell? ⟨q,3,none⟩=some (.slice (some ⟨g,0,none⟩) 1 1):=PG.out.cq.cell 3 _ rfl;have HTE:Hid (eP i (ah.mk xk VY xi xt xd VZ V3 xli Ct::rs)=aQ vU [] [aQ iL [] [aQ xJ [] (oL J9 i.data.toList Ct)],aQ vV [] (rs.map (pY Ec i))]):=by show aQ vU [] (aQ iL [] [aQ xJ [] (oL J9 i.data.toList Ct)]::if rs.isEmpty=true then [] else [aQ vV [] (rs.map (pY Ec i))])=_;rw [HE.out];rfl
        clear hkl hjr hm0;go_upto_region 9 with (fail)
        refine mH 7 (fun w'=>w'.cell? ⟨q,3,none⟩=some (.slice (some ⟨g,0,none⟩) 1 1)) (by kernel_rfl) S0 ?_;intro hH;refine Pq 0 (v:=?_) rfl (by kernel_rfl) hH (by rfl) ?_ ?_;rotate_left
        · (intro wv hSw;(try dsimp only at hSw);go_simp;try with_reducible rfl)
        try simp only [Act.put,jj4,jj5,jj6]
        refine Pq 1 (v:=?_) rfl (by kernel_rfl) hH (by rfl) ?_ ?_;rotate_left
        · (intro wv hSw;(try dsimp only at hSw);go_simp;try with_reducible rfl)
        try simp only [Act.put,jj4,jj5,jj6]
        refine Pq 2 (v:=?_) rfl (by kernel_rfl) hH (by rfl) ?_ ?_;rotate_left
        · (intro wv hSw;(try dsimp only at hSw);go_simp;try with_reducible rfl)
        try simp only [Act.put,jj4,jj5,jj6]
        refine FY (i:=3) rfl (by kernel_rfl) (fun KQ hK=>?_);go_simp;go_at_call 40
        (with_reducible refine (ko ⟨#[116,98,111,100,121]⟩ none av 0 m 0 cv _).mono ?_)
        rintro e w3 ⟨rfl,b3⟩;have B3:jmk wr.heap.size wr w3:=((jj8 _ _).drew).trans b3;have IU:=hid (PG.out.far B3);have S3:w3.cell? ⟨q,3,none⟩=some (.slice (some ⟨g,0,none⟩) 1 1):=IU.out.cq.cell 3 _ rfl;have XD:=hid (show Rd (fun b=>w1.heap.size<=b) w3 (aQ ⟨#[116,98,111,100,121]⟩ [] (rs.map (pY Ec i))).d [.string ⟨#[116,98,111,100,121]⟩,.string ⟨#[]⟩,.slice none 0 0,.slice av m cv] from Nd.eu ⟨#[116,98,111,100,121]⟩ ⟨#[]⟩ ⟨Rd.aF _ _ _,TI.out.aZ B3⟩);have HB3:=hid B3;clear b3 B3 S0;refine hK.out _ _ (fun _=>S3) (fun hH2=>?_);clear hK KQ hH;have hH:=hH2 (by decide);clear hH2;try simp only [Act.put,jj4,jj5,jj6]
        refine FY (i:=4) rfl (by kernel_rfl) (fun KQ hK=>?_);go_simp;refine hK.out _ _ (fun _=>past S3 _) (fun hH2=>?_);clear hK KQ hH;have hH:=hH2 (by decide);clear hH2;try simp only [Act.put,jj4,jj5,jj6]
        refine FY (i:=5) rfl (by kernel_rfl) (fun KQ hK=>?_);refine J8 (n:=1) rfl (.tmp 38) (.tmp 41) 28 rfl iN _ 80 Tryz.underlying28 Fb nU nV nW rfl (by decide) (ds:=[(aQ iL [] [aQ xJ [] (oL J9 i.data.toList Ct)]).d]) (rows:=[[.string ⟨#[116,104,101,97,100]⟩,.string ⟨#[]⟩,.slice none 0 0,.slice (some ⟨f,0,none⟩) 1 1]]) (v:=.slice (some ⟨g,0,none⟩) 1 1) (P:=fun b=>W0.heap.size<=b/\b≠q/\b≠g) (Nj IU.out.cg rfl) (Nat.le_of_lt IU.out.cg.lt) (aI.one IU.out.rd) (by simp) (fun b hb e=>hb.2.2 (je2 e)) (aQ ⟨#[116,98,111,100,121]⟩ [] (rs.map (pY Ec i))).d [.string ⟨#[116,98,111,100,121]⟩,.string ⟨#[]⟩,.slice none 0 0,.slice av m cv] (XD.out.weaken (fun b hb=>⟨Nat.le_trans Uz.out hb,by have:=V4.out;omega,by have:=HG1.out;omega⟩)) rfl jJ rfl (by decide) (by decide) rfl rfl ?_;intro a5 c5 w5 V5 hg5;have hgb:(Value.slice (some ⟨g,0,none⟩) 1 1).ownBlock=some g:=rfl;rw [hgb] at hg5 V5;have q5:CB 35 q [.string ⟨#[116,97,98,108,101]⟩,.string ⟨#[]⟩,.slice none 0 0,.slice (some ⟨g,0,none⟩) 1 1] w5:=(hg5.block q (by simp;have:=IU.out.cq.lt;omega) (fun e=>IU.out.hg.2 (jk1 e).symm)).trans ((jk3 w3 _ q IU.out.cq.lt).trans IU.out.cq);have S5:w5.cell? ⟨q,3,none⟩=some (.slice (some ⟨g,0,none⟩) 1 1):=q5.cell 3 _ rfl;have fz:=nJ q5;have b35:jmk W0.heap.size w3 w5:=((jj8 _ w3).alloc IU.out.aP.size _).grown hg5 (by simp;have:=IU.out.aP.size;omega) (fun x hx=>by have:=jk1 hx;have:=IU.out.hg.1;omega);have xU:=hid (IU.out.aP.trans b35);have ZF:=hid V5;have HQ5:=hid q5;have hq3:q<w3.heap.size:=IU.out.cq.lt;clear V5 hg5 hgb b35 XD q5;refine hK.out _ _ (fun _=>S5) (fun hH2=>?_);clear hK KQ hH;have hH:=hH2 (by decide);clear hH2;try simp only [Act.put,jj4,jj5,jj6]
        refine FY (i:=6) rfl (by kernel_rfl) (fun KQ hK=>?_);go_simp;refine hK.out _ _ (fun _=>S5) (fun hH2=>?_);clear hK KQ hH;have hH:=hH2 (by decide);clear hH2;try simp only [Act.put,jj4,jj5,jj6]
        refine FY (i:=7) rfl (by kernel_rfl) (fun KQ hK=>?_);go_simp;refine hK.out _ _ (fun h=>absurd rfl h) (fun _=>?_);clear hK KQ;refine mI (by kernel_rfl) ?_ _;obtain ⟨w6,iJ⟩:∃ w6,w6=w5.setCell ⟨q,3,none⟩ (.slice a5 (1+1) c5):=⟨_,rfl⟩;try simp only [Nat.reduceAdd] at iJ
        rw [<- iJ];have HQ:Hid (CB 35 q [.string ⟨#[116,97,98,108,101]⟩,.string ⟨#[]⟩,.slice none 0 0,.slice a5 2 c5] w6):=by rw [iJ];exact dG HQ5.out 3 _
        have BL:jmk W0.heap.size W0 w6:=by rw [iJ];exact xU.out.setCell PG.out.hq _
        have YO:Hid (kU (W0.heap.size<=·) w6 [] [aQ iL [] [aQ xJ [] (oL J9 i.data.toList Ct)],aQ vV [] (rs.map (pY Ec i))] (.slice none 0 0) (.slice a5 2 c5)):=⟨Rd.aF _ _ _,by
          rw [iJ];refine Rd.keep (fun b hb hlt=>⟨?_,Below.heap_setCell w5 ⟨q,3,none⟩ _ b ?_⟩) _ _ ZF.out
          · rcases hb with hb | hb | hb
            · exact hb.1
            · have:=jk1 hb;have:=PG.out.hg.1;omega
            · have:=IU.out.aP.size;omega
          · show b≠q
            rcases hb with hb | hb | hb
            · exact hb.2.1
            · have:=jk1 hb;have:=PG.out.hg.2;omega
            · omega⟩
        clear iJ ZF S3 S5 fz hH;obtain ⟨x0,x1,x2,x3,xf⟩:=pJ (K1.out.below BL);obtain ⟨y0,y1,y2,y3,-⟩:=cb4 HQ.out;go_upto_region 10 with (fail)
        obtain ⟨w9,bO⟩:∃ w9,w9=four w6 (S+1) (.string ⟨#[116,97,98,108,101]⟩) (.string ⟨#[]⟩) (.slice none 0 0) (.slice a5 2 c5):=⟨_,rfl⟩;have hf:=fA ⟨#[116,97,98,108,101]⟩ ⟨#[]⟩ [] ([aQ iL [] [aQ xJ [] (oL J9 i.data.toList Ct)],aQ vV [] (rs.map (pY Ec i))]) Cx.out Z0.out B0.out K1.out BL YO.out;rw [<- bO] at hf;have iW:=hid hf.1;have Ba:=hid hf.2;clear hf;have hw8:=bO;simp only [four] at hw8;clear bO;go_wp2;rw [<- hw8];have r0:=iW.out.cell 0 _ rfl;have r1:=iW.out.cell 1 _ rfl;have r2:=iW.out.cell 2 _ rfl;have r3:=iW.out.cell 3 _ rfl;exact bodyPost_ret (v:=.agg #[.string ⟨#[116,97,98,108,101]⟩,.string ⟨#[]⟩,.slice none 0 0,.slice a5 2 c5]) (by simp [results,Tryz.results138,go_sem,r0,r1,r2,r3]) rfl (by rw [HTE.out];exact Ba.out)
open Go.RowKit
theorem IQ {ok:Nat->Prop} {w:jmj} {x y:Nd} {c0 c1 c2 c3 d0 d1 d2 d3:jmq} (hm:ok w.heap.size) (hx:Rd ok w x.d [c0,c1,c2,c3]) (hy:Rd ok w y.d [d0,d1,d2,d3]) : Rd ok (w.alloc (.cells #[c0,c1,c2,c3,d0,d1,d2,d3] 35)) (cZ [x,y]) [.slice (some ⟨w.heap.size,0,none⟩) 2 2]:=by
  have hb:jmk w.heap.size w (w.alloc (.cells #[c0,c1,c2,c3,d0,d1,d2,d3] 35)):=(jj8 _ _).alloc (jj9 _) _;have k:CB 35 w.heap.size [c0,c1,c2,c3,d0,d1,d2,d3] (w.alloc (.cells #[c0,c1,c2,c3,d0,d1,d2,d3] 35)):=CB.new _ _ w;have kp:∀ {d:D} {cs:List jmq},Rd ok w d cs->Rd ok (w.alloc (.cells #[c0,c1,c2,c3,d0,d1,d2,d3] 35)) d cs:=fun h=>Rd.keep (fun b hb' hlt=>⟨hb',hb.block b hlt⟩) _ _ h
  exact Rd.slB (l:=[x,y].map Nd.d) (rows:=[[c0,c1,c2,c3],[d0,d1,d2,d3]]) (by simp) (by unfold maxLen;decide) (aI.cons (kp hx) (aI.one (kp hy))) (by simp) hm k.lt (fun j u hu=>k.cell j u (by simpa using hu))
def vW (w:jmj) (E:Nat) (x:Nd) (e:Ending) (w':jmj):Prop:=
  ∃ va vk,e=.returned (.tuple #[.agg #[.string x.nm,.string x.tx,va,vk],.int .i64 (E:Int)])/\kU (w.heap.size<=·) w' x.at_ x.ks va vk/\jmk w.heap.size w w'
theorem vW.of {w w':jmj} {E:Nat} {E':Int} {x:Nd} {v:jmq} (h:rY w x (.returned v) w') (hE:E'=(E:Int)):vW w E x (.returned (.tuple #[v,.int .i64 E'])) w':=by
  obtain ⟨va,vk,he,h1,h2⟩:=h;subst hE;injection he with he
  subst he;exact ⟨va,vk,rfl,h1,h2⟩
end Go.Proofs.YtkfnkeflalcphaaGreatDoor

