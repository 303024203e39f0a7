/- Contract of html.table: the node of a table. A literal of two nodes; what Page leaves. -/
import Derived.Test.YtkfnkeflalcphaaGreatDoorKHtR
set_option maxHeartbeats 8000000
set_option maxRecDepth 100000
open Go.Lib (hid)
namespace Go.Proofs.YtkfnkeflalcphaaGreatDoor
open List renaming setIfInBounds_toArray->jlk,set_cons_zero->jlq,set_cons_succ->jlx,length_map->jm6
open Go.RowKit.Below renaming refl->jm0,heap_alloc->jmj
open Nat renaming le_refl->jm1
open Option.some renaming inj->jm8
open Go renaming World->jp3,Value->jp5
open Go.RowKit renaming Below->jp4
open Go.RowKit
set_option linter.unusedVariables false
set_option linter.unusedSimpArgs false
structure TbW (i:ByteArray) (ks:List ah):Prop where
  ne:ks≠[]
  len:ks.length<=900000
  row:∀ r∈ks,r.kids.length=i.size/\r.kids.length<=1000000/\∀ c∈r.kids,Y0 c.mI
theorem kN.D5 {ok ok':Nat->Prop} {w w':jp3} {a:At} {li:List aj} {ks:List ah} {vc vp vl vk:jp5} (h:kN ok w a li ks vc vp vl vk) (hs:zG ok ok' w w'):kN ok' w' a li ks vc vp vl vk:=
  ⟨⟨Rd.keep hs _ _ h.at_.cls,Rd.keep hs _ _ h.at_.aJ⟩,Rd.keep hs _ _ h.line,Rd.keep hs _ _ h.kids⟩
structure zx (W0:jp3) (q:Option Nat) (w:jp3) (d:D) (vs:List jp5):Prop where
  aI:jp4 W0.heap.size W0 w
  cb:∀ p,q=some p->W0.heap.size<=p/\CB 35 p jN w
  rd:Rd (fun b=>W0.heap.size<=b/\some b≠q) w d vs
theorem zx.far {W0 w w':jp3} {q:Option Nat} {d:D} {vs:List jp5} (h:zx W0 q w d vs) (hb:jp4 w.heap.size w w'):zx W0 q w' d vs:=
  ⟨h.aI.trans (hb.mono h.aI.size),fun p hp=>⟨(h.cb p hp).1,(h.cb p hp).2.below hb⟩,h.rd.aY hb⟩
theorem zx.nd {W0 w w':jp3} {q:Option Nat} {d d':D} {vs vs':List jp5} (h:zx W0 q w d vs) (hb:jp4 w.heap.size w w') (hr:Rd (w.heap.size<=·) w' d' vs'):zx W0 q w' d' vs':=
  ⟨(h.far hb).aI,(h.far hb).cb,hr.weaken (fun b hk=>⟨Nat.le_trans h.aI.size hk,fun e=>by have:=(h.cb b e.symm).2.lt;omega⟩)⟩
theorem zx.zero {W0 w:jp3} {d:D} {vs:List jp5} (h:zx W0 none w d vs):zx W0 (some w.heap.size) (w.alloc (.cells #[.string ⟨#[]⟩,.string ⟨#[]⟩,.slice none 0 0,.slice none 0 0] 35)) d vs:=by refine ⟨h.aI.alloc h.aI.size _,fun p hp=>?_,Rd.keep (fun b hb hlt=>⟨⟨hb.1,fun e=>by have:=jm8 e;omega⟩,jmj w _ b hlt⟩) _ _ h.rd⟩;obtain rfl:=jm8 hp;exact ⟨h.aI.size,CB.new _ jN w⟩
theorem Oa {w:jp3} {g:Nat} {cs:List jp5} (h:CB 35 g cs w) (hl:cs.length=4):w.ownsRow g 35 4 (.slice (some ⟨g,0,none⟩) 1 1) 1 ([cs]:List (List jp5)).flatten:=by
  refine ⟨by simp [hl],.inr ⟨g,1,cs.toArray,rfl,jm1 _,h,by simp,by unfold maxLen;omega,?_,?_⟩⟩
  · simp [hl]
  · rw [<- hl];simp
theorem zx.lit {W0 w:jp3} {q:Option Nat} {x:Nd} {c0 c1 c2 c3:jp5} (h:zx W0 q w x.d [c0,c1,c2,c3]):zx W0 q (w.alloc (.cells #[c0,c1,c2,c3] 35)) (cO [x]) [.slice (some ⟨w.heap.size,0,none⟩) 1 1]:=by
  have hb:jp4 w.heap.size w (w.alloc (.cells #[c0,c1,c2,c3] 35)):=(jm0 _ _).alloc (jm1 _) _;have h2:=h.far hb;refine ⟨h2.aI,h2.cb,Rd.lI (l:=[x.d]) (rows:=[[c0,c1,c2,c3]]) (Oa (CB.new _ [c0,c1,c2,c3] w) rfl) (aH.one h2.rd) (by simp) (fun g hg=>?_)⟩;have e1:w.heap.size=g:=by simpa [Value.ownBlock] using hg
  exact ⟨by rw [<- e1];exact h.aI.size,fun e=>by have:=(h.cb g e.symm).2.lt;omega⟩
theorem zx.el {W0 w w':jp3} {q:Option Nat} {ks:List Nd} {v:jp5} (h:zx W0 q w (cO ks) [v]) (hb:jp4 w.heap.size w w') (n:ByteArray):zx W0 q w' (aQ n [] ks).d [.string n,.string ⟨#[]⟩,.slice none 0 0,v]:=
  ⟨(h.far hb).aI,(h.far hb).cb,Nd.eH n ⟨#[]⟩ ⟨Rd.aD _ _ _,(h.far hb).rd⟩⟩
structure RG (W0:jp3) (q:Option Nat) (g:Nat) (w:jp3) (d:D) (cs:List jp5):Prop where
  aI:jp4 W0.heap.size W0 w
  cb:∀ p,q=some p->W0.heap.size<=p/\CB 35 p jN w
  hg:W0.heap.size<=g/\some g≠q
  cg:CB 35 g cs w
  rd:Rd (fun b=>(W0.heap.size<=b/\some b≠q)/\b≠g) w d cs
theorem RG.far {W0 w w':jp3} {q:Option Nat} {g:Nat} {d:D} {vs:List jp5} (h:RG W0 q g w d vs) (hb:jp4 w.heap.size w w'):RG W0 q g w' d vs:=
  ⟨h.aI.trans (hb.mono h.aI.size),fun p hp=>⟨(h.cb p hp).1,(h.cb p hp).2.below hb⟩,h.hg,h.cg.below hb,h.rd.aY hb⟩
theorem RG.zero {W0 w:jp3} {g:Nat} {d:D} {vs:List jp5} (h:RG W0 none g w d vs):RG W0 (some w.heap.size) g (w.alloc (.cells #[.string ⟨#[]⟩,.string ⟨#[]⟩,.slice none 0 0,.slice none 0 0] 35)) d vs:=by refine ⟨h.aI.alloc h.aI.size _,fun p hp=>?_,⟨h.hg.1,fun e=>by have:=jm8 e;have:=h.cg.lt;omega⟩,h.cg.below ((jm0 _ _).alloc (jm1 _) _),Rd.keep (fun b hb hlt=>⟨⟨⟨hb.1.1,fun e=>by have:=jm8 e;omega⟩,hb.2⟩,jmj w _ b hlt⟩) _ _ h.rd⟩;obtain rfl:=jm8 hp;exact ⟨h.aI.size,CB.new _ jN w⟩
theorem zx.jh6 {W0 w:jp3} {q:Option Nat} {x:Nd} {c0 c1 c2 c3:jp5} (h:zx W0 q w x.d [c0,c1,c2,c3]):RG W0 q w.heap.size (w.alloc (.cells #[c0,c1,c2,c3] 35)) x.d [c0,c1,c2,c3]:=by have hb:jp4 w.heap.size w (w.alloc (.cells #[c0,c1,c2,c3] 35)):=(jm0 _ _).alloc (jm1 _) _;have h2:=h.far hb;exact ⟨h2.aI,h2.cb,⟨h.aI.size,fun e=>by have:=(h.cb _ e.symm).2.lt;omega⟩,CB.new _ [c0,c1,c2,c3] w,Rd.keep (fun b hk hlt=>⟨⟨hk,by omega⟩,hb.block b hlt⟩) _ _ h.rd⟩
structure TbJ (W0:jp3) (q g:Nat) (w:jp3) (d:D) (cs:List jp5) (cq:List jp5):Prop where
  aI:jp4 W0.heap.size W0 w
  hq:W0.heap.size<=q
  cq:CB 35 q cq w
  hg:W0.heap.size<=g/\g≠q
  cg:CB 35 g cs w
  rd:Rd (fun b=>W0.heap.size<=b/\b≠q/\b≠g) w d cs
theorem RG.put {W0 w:jp3} {g q:Nat} {d:D} {cs:List jp5} (h:RG W0 (some q) g w d cs) (c0 c1 c2 c3:jp5):TbJ W0 q g (four w q c0 c1 c2 c3) d cs [c0,c1,c2,c3]:=by
  have h1:=(h.cb q rfl);have Zp:g≠q:=fun e=>h.hg.2 (by rw [e])
  exact ⟨vU h.aI h1.1 _ _ _ _,h1.1,Jg h1.2 _ _ _ _,⟨h.hg.1,Zp⟩,(gW w q c0 c1 c2 c3 g Zp).trans h.cg,Rd.keep (fun b hb hlt=>⟨⟨hb.1.1,fun e=>hb.1.2 (by rw [e]),hb.2⟩,gW w q c0 c1 c2 c3 b (fun e=>hb.1.2 (by rw [e]))⟩) _ _ h.rd⟩
theorem TbJ.far {W0 w w':jp3} {q g:Nat} {d:D} {cs cq:List jp5} (h:TbJ W0 q g w d cs cq) (hb:jp4 w.heap.size w w'):TbJ W0 q g w' d cs cq:=
  ⟨h.aI.trans (hb.mono h.aI.size),h.hq,h.cq.below hb,h.hg,h.cg.below hb,h.rd.aY hb⟩
section
variable {T:TypeId} {k:Nat} {ds:List D} {rows:List (List jp5)} {v:jp5} {w:jp3}
theorem KV {n:Nat} {ops:Array Oper} {o:Oper} {a:Act} {K:Act->jp3->Prop} {Q:Exit->Act->jp3->Prop} {E:Prop} (hgd:o.guard=none) (s x:Operand) (t:TypeId) (ho:o.op=.call { callee:=.builtin .append,args:=#[s,x],argTypes:=#[t,t] }) (i:TypeInfo) (z:jp5) (bytes:Nat) (ht:Tryz.prog.underlying t=some (.slice T)) (hi:Tryz.prog.info? T=some i) (hz:i.zero=some z) (hsize:i.size=k) (hby:i.bytes=bytes) (hzs:z.cells.size=k) (hsz:0<k) {B:Nat} {P:Nat->Prop} (hown:w.ownsRow B T k v ds.length rows.flatten) (hB:B<=w.heap.size) (hrd:aH P w ds rows) (hlen:∀ r∈rows,r.length=k) (hP:∀ b,P b->v.ownBlock≠some b) (d:D) (r:List jp5) (hx:Rd P w d r) (hr:r.length=k) (h1:∀ u∈r,u.oneCell'=true) (hdn:ds.length=n) (hn:n<=10000000) (iG:bytes<=1000) (hs:a.eval s=v) (hxe:a.eval x=.slice (some ⟨w.heap.size,0,none⟩) 1 1) (hK:∀ a' c' w',Rd (fun b=>P b\/v.ownBlock=some b\/w.heap.size<=b) w' (.sl k (ds++[d])) [.slice a' (n+1) c']->(w.alloc (.cells r.toArray T)).grownBy w' v.ownBlock->K (a.put o.dst (.slice a' (n+1) c')) w') : if Region.wanted o (yielded ops a.tmps)=true then Oper.wp Tryz.prog o a (w.alloc (.cells r.toArray T)) K Q else E:=by
  subst hdn;have hmul:(ds.length+1)*bytes<=140737488355328:=Nat.le_trans (Nat.mul_le_mul (show ds.length+1<=10000001 by omega) iG) (by omega);refine step_append_lies _ hgd s x t ho B T i z k bytes ht hi hz hsize hby hzs hsz v ds.length rows.flatten hs (hown.alloc _) ⟨w.heap.size,0,none⟩ 1 1 r hxe (by omega) (Qd w r T) h1 (by omega) (by unfold maxLen;omega) hmul (by simp;omega) (w.heap.size+1) (by simp) ?_;intro g cap w' hown hg hat _;have hh:∀ b,P b->b<w.heap.size->w'.heap[b]?=w.heap[b]?:=fun b hb hlt=>(hg.block b (by simp;omega) (fun e=>hP b hb e.symm)).trans (jmj w _ b hlt)
  have Es:aH (fun b=>P b\/v.ownBlock=some b\/w.heap.size<=b) w' (ds++[d]) (rows++[r]):=aH.app (aH.keep (fun b hb hlt=>⟨.inl hb,hh b hb hlt⟩) _ _ hrd) (aH.one (Rd.keep (fun b hb hlt=>⟨.inl hb,hh b hb hlt⟩) _ _ hx));have za:∀ q∈rows++[r],q.length=k:=fun q hq=>(List.mem_append.1 hq).elim (hlen q) (fun h=>by rw [List.mem_singleton.1 h];exact hr)
  have hown2:w'.ownsRow B T k (.slice (some ⟨g,0,none⟩) (ds.length+1) cap) (ds++[d]).length (rows++[r]).flatten:=by rw [List.length_append,List.length_singleton,List.flatten_append];simpa using hown
  refine hK _ _ w' (Rd.lI hown2 Es za (fun g' hg'=>?_)) hg;have e1:g=g':=by simpa [Value.ownBlock] using hg'
  subst e1;exact hat.elim (fun e=>.inr (.inl e)) (fun e=>.inr (.inr (by omega)))
end
theorem jh7 {g b n c:Nat} (h:(Value.slice (some ⟨g,0,none⟩) n c).ownBlock=some b):b=g:=by
  have e:g=b:=by simpa [Value.ownBlock] using h
  exact e.symm
def BP (w1:jp3) (i:ByteArray) (rs:List ah) (v vi:jp5) (wr:jp3):Prop:=
  ∃ (k:Nat) (rows:List (List jp5)),k<=rs.length/\vi=.int .i64 k/\ay 35 4 (fun _=>False) wr.heap.size w1 (((rs.take k).map (qw Et i)).map Nd.d) rows v wr
theorem Gb (k lv:Int) (i t d ti:ByteArray) (at_:At) (li:List aj) (ks:List ah) (vc vp vl vk:jp5) (w:jp3) (hR:kN (·<w.heap.size) w at_ li ks vc vp vl vk) (hT:TbW i ks) : Calls Tryz.prog 138 #[.agg #[.int .i64 k,.int .i64 lv,.string i,.string t,.string d,.string ti,.string at_.id,vc,vp,vl,vk]] w (sI w (eY i ks)):=by
  obtain ⟨ac,nc,cc,rfl⟩:=Rd.au hR.at_.cls
  obtain ⟨ap,np,cp,rfl⟩:=Rd.au hR.at_.aJ
  obtain ⟨al,nl,cl,rfl⟩:=Rd.au hR.line;obtain ⟨ak,ck,hvk,hs⟩:=Rd.aB hR.kids;obtain ⟨nk,hnk⟩:∃ nk,nk=ks.length:=⟨_,rfl⟩;obtain rfl:vk=.slice ak nk ck:=by rw [hnk];simpa using hvk
  obtain ⟨x0,rs,rfl⟩:∃ x0 rs,ks=x0::rs:=by
    cases ks with
    | nil=>exact absurd rfl hT.ne
    | cons a b=>exact ⟨a,b,rfl⟩
  have hcap:nk<=ck:=by have:=hs.le;rw [jm6] at this;omega
  have hmx:=hs.max;unfold maxLen at hmx;have ja8:nk=rs.length+1:=by rw [hnk,List.length_cons]
  have Y2:nk<=900000:=by have:=hT.len;omega
  obtain ⟨S,W0,hS,hW0,z0,k0,k1,b0⟩:=rz 48 w [.int .i64 k,.int .i64 lv,.string i,.string t,.string d,.string ti,.string at_.id,.slice ac nc cc,.slice ap np cp,.slice al nl cl,.slice ak nk ck];have hs2:mh (·<S) W0 11 ((x0::rs).map ah.d) ak ck:=by subst hS;exact hs.below b0
  have hT0:=hT.row x0 (List.mem_cons_self ..);have hTR:=fun r hr=>hT.row r (List.mem_cons_of_mem _ hr)
  obtain ⟨xk,WI,xi,xt,xd,WJ,WK,xli,CQ⟩:=x0;obtain ⟨ga,off,xvc,xvp,xvl,xvk,rfl,hok,hbl,hc,hR0⟩:=I7 (k:=0) hs2 rfl;obtain ⟨xac,xnc,xcc,rfl⟩:=Rd.au hR0.at_.cls
  obtain ⟨xap,xnp,xcp,rfl⟩:=Rd.au hR0.at_.aJ
  obtain ⟨xal,xnl,xcl,rfl⟩:=Rd.au hR0.line;obtain ⟨xak,xnk,xck,rfl⟩:=Rd.au hR0.kids;have hc:=show cu W0 ga off xk WI xi xt xd WJ WK.id (.slice xac xnc xcc) (.slice xap xnp xcp) (.slice xal xnl xcl) (.slice xak xnk xck) by simpa using hc
  have CX:Hid (∀ w':jp3,jp4 W0.heap.size W0 w'->w'.cell? ⟨S,2,none⟩=some (.string i)/\w'.cell? ⟨S,10,none⟩=some (.slice (some ⟨ga,off,none⟩) nk ck)/\cu w' ga off xk WI xi xt xd WJ WK.id (.slice xac xnc xcc) (.slice xap xnp xcp) (.slice xal xnl xcl) (.slice xak xnk xck)):=fun w' hb=>
    ⟨(k0.below hb).cell 2 _ rfl,(k0.below hb).cell 10 _ rfl,hc.at2 (hb.block ga hbl)⟩
  have RC:Hid (∀ w':jp3,jp4 W0.heap.size W0 w'->Calls Tryz.prog 174 #[.agg #[.int .i64 xk,.int .i64 WI,.string xi,.string xt,.string xd,.string WJ,.string WK.id,.slice xac xnc xcc,.slice xap xnp xcp,.slice xal xnl xcl,.slice xak xnk xck],.string ⟨#[116,104]⟩,.string i] w' (sI w' (aQ xU [] (oZ KW i.data.toList CQ)))):=fun w' hb=>
    Ef xk WI xi xt xd WJ WK xli CQ _ _ _ _ KW i w' (kN.D5 hR0 (fun b (hb':b<S) hlt=>⟨by show b<w'.heap.size;have:=hb.size;omega,hb.block b (by omega)⟩)) hT0.1 hT0.2.1 hT0.2.2
  have HS2:=hid hs2;have Da:=hid hS;have HW0:=hid hW0;have Z0:=hid z0;have B0:=hid b0;have K1:=hid k1;have Yu:=hid hTR;have IY:=hid ja8;have jl1:0<nk:=by omega
  have jl2:(0:Int)<(nk:Int):=by omega
  clear hR hvk hs hs2 hS hW0 z0 k0 k1 b0 hc hT0 hTR hT hnk ja8 hR0;go_enter Tryz.func138,Tryz.ntmps138;go_upto_region 1 with (fail)
  rw [<- Da.out];have hk0:=HW0.out;simp only [jN] at hk0;rw [<- hk0];clear hk0
  go_cut [3] (fun s3 wx=>∃ q g f,s3=.pointer (some ⟨q,0,none⟩)/\TbJ W0 q g wx (aQ iR [] [aQ xU [] (oZ KW i.data.toList CQ)]).d [.string ⟨#[116,104,101,97,100]⟩,.string ⟨#[]⟩,.slice none 0 0,.slice (some ⟨f,0,none⟩) 1 1] [.string ⟨#[116,97,98,108,101]⟩,.string ⟨#[]⟩,.slice none 0 0,.slice (some ⟨g,0,none⟩) 1 1])
  case first=>
    refine QX 12 (fun w'=>jp4 W0.heap.size W0 w') (by kernel_rfl) (jm0 _ _).drew ?_;intro hH;refine ig 0 (v:=?_) rfl (by kernel_rfl) hH (by rfl) ?_ ?_;rotate_left
    · (intro wv hSw;obtain ⟨e2,e10,c0,c1,c2,c3,c4,c5,c6,c7,c8,c9,c10⟩:=CX.out wv hSw;go_simp;try with_reducible rfl)
    try simp only [Act.put,jlk,jlq,jlx]
    refine ig 1 (v:=?_) rfl (by kernel_rfl) hH (by rfl) ?_ ?_;rotate_left
    · (intro wv hSw;obtain ⟨e2,e10,c0,c1,c2,c3,c4,c5,c6,c7,c8,c9,c10⟩:=CX.out wv hSw;go_simp;try with_reducible rfl)
    try simp only [Act.put,jlk,jlq,jlx]
    refine ig 2 (v:=?_) rfl (by kernel_rfl) hH (by rfl) ?_ ?_;rotate_left
    · (intro wv hSw;obtain ⟨e2,e10,c0,c1,c2,c3,c4,c5,c6,c7,c8,c9,c10⟩:=CX.out wv hSw;go_simp;try with_reducible rfl)
    try simp only [Act.put,jlk,jlq,jlx]
    refine ig 3 (v:=?_) rfl (by kernel_rfl) hH (by rfl) ?_ ?_;rotate_left
    · (intro wv hSw;obtain ⟨e2,e10,c0,c1,c2,c3,c4,c5,c6,c7,c8,c9,c10⟩:=CX.out wv hSw;go_simp;try with_reducible rfl)
    try simp only [Act.put,jlk,jlq,jlx]
    refine ig 4 (v:=?_) rfl (by kernel_rfl) hH (by rfl) ?_ ?_;rotate_left
    · (intro wv hSw;obtain ⟨e2,e10,c0,c1,c2,c3,c4,c5,c6,c7,c8,c9,c10⟩:=CX.out wv hSw;go_simp;try with_reducible rfl)
    try simp only [Act.put,jlk,jlq,jlx]
    refine ig 5 (v:=?_) rfl (by kernel_rfl) hH (by rfl) ?_ ?_;rotate_left
    · (intro wv hSw;obtain ⟨e2,e10,c0,c1,c2,c3,c4,c5,c6,c7,c8,c9,c10⟩:=CX.out wv hSw;go_simp;try with_reducible rfl)
    try simp only [Act.put,jlk,jlq,jlx]
    obtain ⟨y,hy0⟩:∃ y,y=W0.drew:=⟨_,rfl⟩;rw [<- hy0] at hH;rw [<- hy0];clear hy0;have HY:Hid (zx W0 none y (cO []) [.slice none 0 0]):=⟨hH,fun p hp=>by simp at hp,Rd.aD _ _ _⟩;refine xR (i:=6) (j:=11) rfl rfl (by decide +kernel) (fun KQ hK=>?_) (fun KQ hK=>?_);rotate_left;go_simp;obtain ⟨q,hf⟩:∃ q,q=y.heap.size:=⟨_,rfl⟩;have iT:=hid HY.out.zero;obtain ⟨y,hN⟩:∃ y2,y2=y.alloc (.cells #[.string ⟨#[]⟩,.string ⟨#[]⟩,.slice none 0 0,.slice none 0 0] 35):=⟨_,rfl⟩;rw [<- hN,<- hf] at iT;rw [<- hN,<- hf];clear hN hf;refine hK.out _ _ (fun _ _=>iT.out.aI) (fun hH2=>?_);clear hK KQ hH;have hH:=hH2 (by decide) (by kernel_rfl);clear hH2;try simp only [Act.put,jlk,jlq,jlx]
    clear HY;have HY:=iT;clear iT;refine q01 (i:=6) rfl (by kernel_rfl) (fun KQ hK=>?_);all_goals
      go_simp;go_at_call 174
      (with_reducible refine (RC.out _ HY.out.aI).mono ?_)
      rintro e y ⟨va,vk,he,hR,hb⟩;obtain ⟨aA,nA,cA,rfl⟩:=Rd.au hR.at_
      obtain ⟨aK,nK,cK,rfl⟩:=Rd.au hR.ks;have he:e=.returned (.agg #[.string xU,.string ⟨#[]⟩,.slice aA nA cA,.slice aK nK cK]):=he;subst he;have iT:=hid (HY.out.nd hb (Nd.eH xU ⟨#[]⟩ hR));clear hb hR;refine hK.out _ _ (fun _ _=>iT.out.aI) (fun hH2=>?_);clear hK KQ hH;have hH:=hH2 (by decide) (by kernel_rfl);clear hH2;try simp only [Act.put,jlk,jlq,jlx]
      clear HY;have HY:=iT;clear iT
    all_goals
      first
        | (refine xR (i:=7) (j:=11) rfl rfl (by decide +kernel) (fun KQ hK=>?_) (fun KQ hK=>?_)
           rotate_left;go_simp;obtain ⟨q,hf⟩:∃ q,q=y.heap.size:=⟨_,rfl⟩;have iT:=hid HY.out.zero;obtain ⟨y,hN⟩:∃ y2,y2=y.alloc (.cells #[.string ⟨#[]⟩,.string ⟨#[]⟩,.slice none 0 0,.slice none 0 0] 35):=⟨_,rfl⟩;rw [<- hN,<- hf] at iT;rw [<- hN,<- hf];clear hN hf;refine hK.out _ _ (fun _ _=>iT.out.aI) (fun hH2=>?_);clear hK KQ hH;have hH:=hH2 (by decide) (by kernel_rfl);clear hH2;try simp only [Act.put,jlk,jlq,jlx]
           clear HY;have HY:=iT;clear iT;refine q01 (i:=7) rfl (by kernel_rfl) (fun KQ hK=>?_))
        | refine q01 (i:=7) rfl (by kernel_rfl) (fun KQ hK=>?_)
    all_goals
      go_simp;obtain ⟨f,hf⟩:∃ f,f=y.heap.size:=⟨_,rfl⟩;have iT:=hid HY.out.lit;obtain ⟨y,hN⟩:∃ y2,y2=y.alloc (.cells #[.string xU,.string ⟨#[]⟩,.slice aA nA cA,.slice aK nK cK] 35):=⟨_,rfl⟩;rw [<- hN,<- hf] at iT;rw [<- hN,<- hf];clear hN hf;refine hK.out _ _ (fun _ _=>iT.out.aI) (fun hH2=>?_);clear hK KQ hH;have hH:=hH2 (by decide) (by kernel_rfl);clear hH2;try simp only [Act.put,jlk,jlq,jlx]
      clear HY;have HY:=iT;clear iT
    all_goals
      first
        | (refine xR (i:=8) (j:=11) rfl rfl (by decide +kernel) (fun KQ hK=>?_) (fun KQ hK=>?_)
           rotate_left;go_simp;obtain ⟨q,hf⟩:∃ q,q=y.heap.size:=⟨_,rfl⟩;have iT:=hid HY.out.zero;obtain ⟨y,hN⟩:∃ y2,y2=y.alloc (.cells #[.string ⟨#[]⟩,.string ⟨#[]⟩,.slice none 0 0,.slice none 0 0] 35):=⟨_,rfl⟩;rw [<- hN,<- hf] at iT;rw [<- hN,<- hf];clear hN hf;refine hK.out _ _ (fun _ _=>iT.out.aI) (fun hH2=>?_);clear hK KQ hH;have hH:=hH2 (by decide) (by kernel_rfl);clear hH2;try simp only [Act.put,jlk,jlq,jlx]
           clear HY;have HY:=iT;clear iT;refine q01 (i:=8) rfl (by kernel_rfl) (fun KQ hK=>?_))
        | refine q01 (i:=8) rfl (by kernel_rfl) (fun KQ hK=>?_)
    all_goals
      go_simp;go_at_call 40
      (with_reducible refine (kM ⟨#[116,104,101,97,100]⟩ none (some ⟨f,0,none⟩) 0 1 0 1 _).mono ?_)
      rintro e y ⟨rfl,hb⟩;have iT:=hid (HY.out.el hb ⟨#[116,104,101,97,100]⟩);clear hb;refine hK.out _ _ (fun _ _=>iT.out.aI) (fun hH2=>?_);clear hK KQ hH;have hH:=hH2 (by decide) (by kernel_rfl);clear hH2;try simp only [Act.put,jlk,jlq,jlx]
      clear HY;have HY:=iT;clear iT
    all_goals
      first
        | (refine xR (i:=9) (j:=11) rfl rfl (by decide +kernel) (fun KQ hK=>?_) (fun KQ hK=>?_)
           rotate_left;go_simp;obtain ⟨q,hf⟩:∃ q,q=y.heap.size:=⟨_,rfl⟩;have iT:=hid HY.out.zero;obtain ⟨y,hN⟩:∃ y2,y2=y.alloc (.cells #[.string ⟨#[]⟩,.string ⟨#[]⟩,.slice none 0 0,.slice none 0 0] 35):=⟨_,rfl⟩;rw [<- hN,<- hf] at iT;rw [<- hN,<- hf];clear hN hf;refine hK.out _ _ (fun _ _=>iT.out.aI) (fun hH2=>?_);clear hK KQ hH;have hH:=hH2 (by decide) (by kernel_rfl);clear hH2;try simp only [Act.put,jlk,jlq,jlx]
           clear HY;have HY:=iT;clear iT;refine q01 (i:=9) rfl (by kernel_rfl) (fun KQ hK=>?_))
        | refine q01 (i:=9) rfl (by kernel_rfl) (fun KQ hK=>?_)
    all_goals
      go_simp;obtain ⟨g,hf⟩:∃ f,f=y.heap.size:=⟨_,rfl⟩;have iT:=hid HY.out.jh6;obtain ⟨y,hN⟩:∃ y2,y2=y.alloc (.cells #[.string ⟨#[116,104,101,97,100]⟩,.string ⟨#[]⟩,.slice none 0 0,.slice (some ⟨f,0,none⟩) 1 1] 35):=⟨_,rfl⟩;rw [<- hN,<- hf] at iT;rw [<- hN,<- hf];clear hN hf;refine hK.out _ _ (fun _ _=>iT.out.aI) (fun hH2=>?_);clear hK KQ hH;have hH:=hH2 (by decide) (by kernel_rfl);clear hH2;try simp only [Act.put,jlk,jlq,jlx]
      clear HY;have HY:=iT;clear iT
    all_goals
      first
        | (refine xR (i:=10) (j:=11) rfl rfl (by decide +kernel) (fun KQ hK=>?_) (fun KQ hK=>?_)
           rotate_left;go_simp;obtain ⟨q,hf⟩:∃ q,q=y.heap.size:=⟨_,rfl⟩;have iT:=hid HY.out.zero;obtain ⟨y,hN⟩:∃ y2,y2=y.alloc (.cells #[.string ⟨#[]⟩,.string ⟨#[]⟩,.slice none 0 0,.slice none 0 0] 35):=⟨_,rfl⟩;rw [<- hN,<- hf] at iT;rw [<- hN,<- hf];clear hN hf;refine hK.out _ _ (fun _ _=>iT.out.aI) (fun hH2=>?_);clear hK KQ hH;have hH:=hH2 (by decide) (by kernel_rfl);clear hH2;try simp only [Act.put,jlk,jlq,jlx]
           clear HY;have HY:=iT;clear iT;refine q01 (i:=10) rfl (by kernel_rfl) (fun KQ hK=>?_))
        | refine q01 (i:=10) rfl (by kernel_rfl) (fun KQ hK=>?_)
    all_goals
      go_simp;go_at_call 40
      (with_reducible refine (kM ⟨#[116,97,98,108,101]⟩ none (some ⟨g,0,none⟩) 0 1 0 1 _).mono ?_)
      rintro e y ⟨rfl,hb⟩;have iT:=hid (HY.out.far hb);clear hb;refine hK.out _ _ (fun _ _=>iT.out.aI) (fun hH2=>?_);clear hK KQ hH;have hH:=hH2 (by decide) (by kernel_rfl);clear hH2;try simp only [Act.put,jlk,jlq,jlx]
      clear HY;have HY:=iT;clear iT
    all_goals
      first
        | (refine q01 (i:=11) rfl (by decide +kernel) (fun KQ hK=>?_)
           go_simp;obtain ⟨q,hf⟩:∃ q,q=y.heap.size:=⟨_,rfl⟩;have iT:=hid HY.out.zero;obtain ⟨y,hN⟩:∃ y2,y2=y.alloc (.cells #[.string ⟨#[]⟩,.string ⟨#[]⟩,.slice none 0 0,.slice none 0 0] 35):=⟨_,rfl⟩;rw [<- hN,<- hf] at iT;rw [<- hN,<- hf];clear hN hf;refine hK.out _ _ (fun _ _=>iT.out.aI) (fun hH2=>?_);clear hK KQ hH;have hH:=hH2 (by decide) (by kernel_rfl);clear hH2;try simp only [Act.put,jlk,jlq,jlx]
           clear HY;have HY:=iT;clear iT)
        | skip
    all_goals
      refine q01 (i:=12) rfl (by kernel_rfl) (fun KQ hK=>?_);obtain ⟨x0,x1,x2,x3,xf⟩:=pY (HY.out.cb q rfl).2;go_simp;have HJ:=hid (HY.out.put (.string ⟨#[116,97,98,108,101]⟩) (.string ⟨#[]⟩) (.slice none 0 0) (.slice (some ⟨g,0,none⟩) 1 1));clear x0 x1 x2 x3 xf;refine hK.out _ _ (fun h=>absurd rfl h) (fun _=>?_);clear hK KQ hH;try simp only [Act.put,jlk,jlq,jlx]
      refine Gp (by kernel_rfl) ?_ _;go_wp2
      go_meet
      exact ⟨q,g,f,rfl,HJ.out⟩
  case rest=>
    obtain ⟨q,g,f,rfl,hJ⟩:=hcut;obtain ⟨w1,hw1⟩:∃ w1:jp3,w1=wc:=⟨_,rfl⟩;subst hw1;have HJ:=hid hJ;obtain ⟨-,e10,-⟩:=CX.out w1 hJ.aI;obtain ⟨iN,FH,nW,og,oh⟩:=info_parts mG;obtain ⟨nr,hnr⟩:∃ nr,nr=nk-1:=⟨_,rfl⟩;have GJ:Hid (nr=rs.length):=by have:=IY.out;show _=_;omega
    have jl3:nr<=900000:=by omega
    have R0:Hid (BP w1 i rs (.slice none 0 0) (.int .i64 0) w1):=⟨0,[],Nat.zero_le _,rfl,ay.nil _ _ _ _⟩;have hZ0:W0.heap.size=S+2:=Z0.out;clear hJ;by_cases hck:ck=1
    case' pos=>
      have hnz:nr=0:=by omega
      subst hck;go_upto_region 4 with (fail)
      subst hnz;clear hnr e10
      go_loopw [4,22] (fun v vi wr=>BP w1 i rs v vi wr) (fun _ vi _=>0-(intOf vi).toNat)
      case atStart=>exact R0.out
      case' round=>
        clear R0;obtain ⟨j,rows,hj,rfl,hrow⟩:=hrel;obtain ⟨ds,hds⟩:∃ ds,ds=((rs.take j).map (qw Et i)).map Nd.d:=⟨_,rfl⟩;rw [<- hds] at hrow;obtain ⟨m,hm⟩:∃ m,m=ds.length:=⟨_,rfl⟩;have hmj:m<=1000000:=by have h2:(rs.take j).length<=rs.length:=List.length_take_le' _ _;rw [hm,hds,jm6,jm6];have:=GJ.out;omega
        obtain ⟨av,cv,rfl,-,-⟩:=hrow.cap hm.symm;have HM:=hid hm.symm;have FD:=hid hds;have bV:=hid hrow;clear hrow hm hds;by_cases hlt:j<0
        · exact absurd hlt (by omega)
        have hkl:j=0:=by have:=GJ.out;omega
    case' neg=>
      obtain ⟨ck2,ja9⟩:∃ ck2,ck2=ck-1:=⟨_,rfl⟩;go_upto_region 4 with (fail)
      rw [<- hnr,<- ja9];have hcc:nr<=ck2:=by omega
      clear hnr e10 ja9 hck
      go_loopw [4,22] (fun v vi wr=>BP w1 i rs v vi wr) (fun _ vi _=>nr-(intOf vi).toNat)
      case atStart=>exact R0.out
      case' round=>
        clear R0;obtain ⟨j,rows,hj,rfl,hrow⟩:=hrel;obtain ⟨ds,hds⟩:∃ ds,ds=((rs.take j).map (qw Et i)).map Nd.d:=⟨_,rfl⟩;rw [<- hds] at hrow;obtain ⟨m,hm⟩:∃ m,m=ds.length:=⟨_,rfl⟩;have hmj:m<=1000000:=by have h2:(rs.take j).length<=rs.length:=List.length_take_le' _ _;rw [hm,hds,jm6,jm6];have:=GJ.out;omega
        obtain ⟨av,cv,rfl,-,-⟩:=hrow.cap hm.symm;have HM:=hid hm.symm;have FD:=hid hds;have bV:=hid hrow;clear hrow hm hds;by_cases hlt:j<nr
        · obtain ⟨y,hy⟩:∃ y,rs[j]?=some y:=⟨_,List.getElem?_eq_getElem (by have:=GJ.out;omega)⟩
          have hsn:=pW (qw Et i) rs j y hy;have hw:=Yu.out y (List.mem_of_getElem? hy);obtain ⟨yk,IZ,yi,yt,yd,I5,Gd,Kk,I6⟩:=y;have hw:I6.length=i.size/\I6.length<=1000000/\∀ c∈I6,Y0 c.mI:=hw;obtain ⟨g2,off2,vc,vp,vl,vk,hge,hok2,J2,hc2,hR2⟩:=I7 (k:=j+1) HS2.out (show (ah.mk xk WI xi xt xd WJ WK xli CQ::rs)[j+1]?=some (.mk yk IZ yi yt yd I5 Gd Kk I6) by simpa using hy);obtain ⟨rfl,rfl⟩:ga=g2/\off=off2:=by simpa using hge
          have hbr:jp4 W0.heap.size W0 wr:=HJ.out.aI.trans (bV.out.aI.mono HJ.out.aI.size);have hc2:cu W0 ga (off+11+j*11) yk IZ yi yt yd I5 Gd.id vc vp vl vk:=by rw [show off+11+j*11=off+(j+1)*11 by omega];exact hc2
          obtain ⟨c0,c1,c2,c3,c4,c5,c6,c7,c8,c9,c10⟩:=hc2.at2 (w':=wr) (hbr.block ga hbl);obtain ⟨MO,MP,MQ,rfl⟩:=Rd.au hR2.at_.cls
          obtain ⟨MR,MS,MU,rfl⟩:=Rd.au hR2.at_.aJ
          obtain ⟨CF,CG,CJ,rfl⟩:=Rd.au hR2.line;obtain ⟨MV,MW,MX,rfl⟩:=Rd.au hR2.kids;have RC2:Hid (∀ w':jp3,jp4 W0.heap.size W0 w'->Calls Tryz.prog 174 #[.agg #[.int .i64 yk,.int .i64 IZ,.string yi,.string yt,.string yd,.string I5,.string Gd.id,.slice MO MP MQ,.slice MR MS MU,.slice CF CG CJ,.slice MV MW MX],.string ⟨#[116,100]⟩,.string i] w' (sI w' (aQ xU [] (oZ Et i.data.toList I6)))):=fun w' hb=>
            Ef yk IZ yi yt yd I5 Gd Kk I6 _ _ _ _ Et i w' (kN.D5 hR2 (fun b (hb':b<S) hlt=>⟨by show b<w'.heap.size;have:=hb.size;omega,hb.block b (by omega)⟩)) hw.1 hw.2.1 hw.2.2
          have AZ:=hid (show ((rs.take (j+1)).map (qw Et i)).map Nd.d=ds++[(aQ xU [] (oZ Et i.data.toList I6)).d] by rw [hsn,List.map_append,FD.out];rfl);have HBR:=hid hbr;clear hy hsn hw hge hok2 J2 hc2 hR2 hbr;go_upto_region 6 with (fail)
          obtain ⟨p,hp⟩:∃ p,p=wr.heap.size:=⟨_,rfl⟩;obtain ⟨wA,iL⟩:∃ wA,wA=wr.alloc (.cells #[.int .i64 yk,.int .i64 IZ,.string yi,.string yt,.string yd,.string I5,.string Gd.id,.slice MO MP MQ,.slice MR MS MU,.slice CF CG CJ,.slice MV MW MX] 48):=⟨_,rfl⟩;have PA:CB 48 p [.int .i64 yk,.int .i64 IZ,.string yi,.string yt,.string yd,.string I5,.string Gd.id,.slice MO MP MQ,.slice MR MS MU,.slice CF CG CJ,.slice MV MW MX] wA:=by rw [iL,hp];exact CB.new _ _ wr
          have bA:jp4 wr.heap.size wr wA:=by rw [iL];exact (jm0 _ _).alloc (jm1 _) _
          rw [<- iL,<- hp];have BA:=hid bA;have Yb:jp4 W0.heap.size W0 wA:=HBR.out.trans (bA.mono HBR.out.size);obtain ⟨e2,-,-⟩:=CX.out wA Yb;have d0:=PA.cell 0 _ rfl;have d1:=PA.cell 1 _ rfl;have d2:=PA.cell 2 _ rfl;have d3:=PA.cell 3 _ rfl;have d4:=PA.cell 4 _ rfl;have d5:=PA.cell 5 _ rfl;have d6:=PA.cell 6 _ rfl;have d7:=PA.cell 7 _ rfl;have d8:=PA.cell 8 _ rfl;have d9:=PA.cell 9 _ rfl;have d10:=PA.cell 10 _ rfl;have Y4:=hid (RC2.out wA Yb);have hpw:wr.heap.size<=wA.heap.size:=bA.size;clear iL hp c0 c1 c2 c3 c4 c5 c6 c7 c8 c9 c10 PA bA Yb RC2;go_wp2_with fail
          (with_reducible refine Y4.out.mono ?_)
          rintro e w2 ⟨va,vk,he,hR2,hb2⟩;obtain ⟨aA,nA,cA,rfl⟩:=Rd.au hR2.at_
          obtain ⟨aK,nK,cK,rfl⟩:=Rd.au hR2.ks;have he:e=.returned (.agg #[.string xU,.string ⟨#[]⟩,.slice aA nA cA,.slice aK nK cK]):=he;subst he;have U2:=hid ((bV.out.below BA.out).below hb2);have XD:=hid ((Nd.eH xU ⟨#[]⟩ hR2).weaken (ok':=fun b=>False\/wr.heap.size<=b) (fun b hb=>.inr (Nat.le_trans hpw hb)));clear Y4 hR2 hb2 d0 d1 d2 d3 d4 d5 d6 d7 d8 d9 d10 e2;go_wp2_with (at_builtin;refine eX rfl _ _ 28 rfl iN _ 80 Tryz.underlying28 FH nW og oh rfl (by decide) U2.out (fun _=>False.elim) (aQ xU [] (oZ Et i.data.toList I6)).d [.string xU,.string ⟨#[]⟩,.slice aA nA cA,.slice aK nK cK] XD.out rfl jO HM.out (by omega) (by decide) rfl rfl ?_)
          intro a' c' w5 hrow hg5;have HF:Hid (BP w1 i rs (.slice a' (m+1) c') (.int .i64 ((j+1:Nat):Int)) w5):=⟨j+1,_,by have:=GJ.out;omega,rfl,by rw [AZ.out];exact hrow⟩;clear hrow hg5 XD U2 bV;go_wp2;go_roundw;case rel=>exact HF.out
          case measure=>simp [intOf];omega
        have hkl:j=nr:=by have:=GJ.out;omega
    all_goals
      have hjr:j=rs.length:=by have:=GJ.out;omega
      have HNV:Hid (Rd (w1.heap.size<=·) wr (cO (rs.map (qw Et i))) [.slice av m cv]):=by have h:=bV.out.fD;rw [FD.out,hjr,List.take_length] at h;exact h
      have Qi:=hid (HJ.out.far bV.out.aI);have Vn:Hid (W0.heap.size<=w1.heap.size):=HJ.out.aI.size;have WL:Hid (q<w1.heap.size):=HJ.out.cq.lt;have HG1:Hid (g<w1.heap.size):=HJ.out.cg.lt;by_cases hm0:m=0
      · have HE:Hid (rs=[]):=by
          have:=HM.out;rw [FD.out,hjr] at this;simp at this;exact List.length_eq_zero_iff.1 (by omega)
        subst hm0;have BL:=Qi.out.aI;have HQ:=hid Qi.out.cq;have Zu:Hid (kZ (W0.heap.size<=·) wr [] [aQ iR [] [aQ xU [] (oZ KW i.data.toList CQ)]] (.slice none 0 0) (.slice (some ⟨g,0,none⟩) 1 1)):=⟨Rd.aD _ _ _,Rd.lI (l:=[(aQ iR [] [aQ xU [] (oZ KW i.data.toList CQ)]).d]) (rows:=[[.string ⟨#[116,104,101,97,100]⟩,.string ⟨#[]⟩,.slice none 0 0,.slice (some ⟨f,0,none⟩) 1 1]]) (Oa Qi.out.cg rfl) (aH.one (Qi.out.rd.weaken (fun b hb=>hb.1))) (by simp) (fun b hb=>by
          have e1:g=b:=by simpa [Value.ownBlock] using hb
          rw [<- e1];exact Qi.out.hg.1)⟩
        have HTE:Hid (eY i (ah.mk xk WI xi xt xd WJ WK xli CQ::rs)=aQ wP [] [aQ iR [] [aQ xU [] (oZ KW i.data.toList CQ)]]):=by show _=_;rw [HE.out];rfl
        obtain ⟨x0,x1,x2,x3,xf⟩:=pY (K1.out.below BL);obtain ⟨y0,y1,y2,y3,-⟩:=cb4 HQ.out;go_upto_region 10 with (fail)
        obtain ⟨w9,bM⟩:∃ w9,w9=four wr (S+1) (.string ⟨#[116,97,98,108,101]⟩) (.string ⟨#[]⟩) (.slice none 0 0) (.slice (some ⟨g,0,none⟩) 1 1):=⟨_,rfl⟩;have hf:=fE ⟨#[116,97,98,108,101]⟩ ⟨#[]⟩ [] ([aQ iR [] [aQ xU [] (oZ KW i.data.toList CQ)]]) Da.out Z0.out B0.out K1.out BL Zu.out;rw [<- bM] at hf;have iZ:=hid hf.1;have Bz:=hid hf.2;clear hf;have hw8:=bM;simp only [four] at hw8;clear bM;go_wp2;rw [<- hw8];have r0:=iZ.out.cell 0 _ rfl;have r1:=iZ.out.cell 1 _ rfl;have r2:=iZ.out.cell 2 _ rfl;have r3:=iZ.out.cell 3 _ rfl;exact bodyPost_ret (v:=.agg #[.string ⟨#[116,97,98,108,101]⟩,.string ⟨#[]⟩,.slice none 0 0,.slice (some ⟨g,0,none⟩) 1 1]) (by simp [results,Tryz.results138,go_sem,r0,r1,r2,r3]) rfl (by rw [HTE.out];exact Bz.out)
      · have hm1:0<m:=by omega
        have HE:Hid (rs.isEmpty=false):=by
          show _=_;cases hrs:rs with
          | nil=>
            have:=HM.out;rw [FD.out,hrs] at this;simp at this;omega
          | cons _ _=>rfl
        have S0:wr.drew.cell? ⟨q,3,none⟩=some (.slice (some ⟨g,0,none⟩) 1 1):=Qi.out.cq.cell 3 _ rfl;have HTE:Hid (eY i (ah.mk xk WI xi xt xd WJ WK xli CQ::rs)=aQ wP [] [aQ iR [] [aQ xU [] (oZ KW i.data.toList CQ)],aQ wR [] (rs.map (qw Et i))]):=by show aQ wP [] (aQ iR [] [aQ xU [] (oZ KW i.data.toList CQ)]::if rs.isEmpty=true then [] else [aQ wR [] (rs.map (qw Et i))])=_;rw [HE.out];rfl
        clear hkl hjr hm0;go_upto_region 9 with (fail)
        refine mM 7 (fun w'=>w'.cell? ⟨q,3,none⟩=some (.slice (some ⟨g,0,none⟩) 1 1)) (by kernel_rfl) S0 ?_;intro hH;refine Qc 0 (v:=?_) rfl (by kernel_rfl) hH (by rfl) ?_ ?_;rotate_left
        · (intro wv hSw;(try dsimp only at hSw);go_simp;try with_reducible rfl)
        try simp only [Act.put,jlk,jlq,jlx]
        refine Qc 1 (v:=?_) rfl (by kernel_rfl) hH (by rfl) ?_ ?_;rotate_left
        · (intro wv hSw;(try dsimp only at hSw);go_simp;try with_reducible rfl)
        try simp only [Act.put,jlk,jlq,jlx]
        refine Qc 2 (v:=?_) rfl (by kernel_rfl) hH (by rfl) ?_ ?_;rotate_left
        · (intro wv hSw;(try dsimp only at hSw);go_simp;try with_reducible rfl)
        try simp only [Act.put,jlk,jlq,jlx]
        refine Gi (i:=3) rfl (by kernel_rfl) (fun KQ hK=>?_);go_simp;go_at_call 40
        (with_reducible refine (kM ⟨#[116,98,111,100,121]⟩ none av 0 m 0 cv _).mono ?_)
        rintro e w3 ⟨rfl,b3⟩;have B3:jp4 wr.heap.size wr w3:=((jm0 _ _).drew).trans b3;have Jo:=hid (Qi.out.far B3);have S3:w3.cell? ⟨q,3,none⟩=some (.slice (some ⟨g,0,none⟩) 1 1):=Jo.out.cq.cell 3 _ rfl;have XD:=hid (show Rd (fun b=>w1.heap.size<=b) w3 (aQ ⟨#[116,98,111,100,121]⟩ [] (rs.map (qw Et i))).d [.string ⟨#[116,98,111,100,121]⟩,.string ⟨#[]⟩,.slice none 0 0,.slice av m cv] from Nd.eH ⟨#[116,98,111,100,121]⟩ ⟨#[]⟩ ⟨Rd.aD _ _ _,HNV.out.aY B3⟩);have HB3:=hid B3;clear b3 B3 S0;refine hK.out _ _ (fun _=>S3) (fun hH2=>?_);clear hK KQ hH;have hH:=hH2 (by decide);clear hH2;try simp only [Act.put,jlk,jlq,jlx]
        refine Gi (i:=4) rfl (by kernel_rfl) (fun KQ hK=>?_);go_simp;refine hK.out _ _ (fun _=>past S3 _) (fun hH2=>?_);clear hK KQ hH;have hH:=hH2 (by decide);clear hH2;try simp only [Act.put,jlk,jlq,jlx]
        refine Gi (i:=5) rfl (by kernel_rfl) (fun KQ hK=>?_);refine KV (n:=1) rfl (.tmp 38) (.tmp 41) 28 rfl iN _ 80 Tryz.underlying28 FH nW og oh rfl (by decide) (ds:=[(aQ iR [] [aQ xU [] (oZ KW i.data.toList CQ)]).d]) (rows:=[[.string ⟨#[116,104,101,97,100]⟩,.string ⟨#[]⟩,.slice none 0 0,.slice (some ⟨f,0,none⟩) 1 1]]) (v:=.slice (some ⟨g,0,none⟩) 1 1) (P:=fun b=>W0.heap.size<=b/\b≠q/\b≠g) (Oa Jo.out.cg rfl) (Nat.le_of_lt Jo.out.cg.lt) (aH.one Jo.out.rd) (by simp) (fun b hb e=>hb.2.2 (jh7 e)) (aQ ⟨#[116,98,111,100,121]⟩ [] (rs.map (qw Et i))).d [.string ⟨#[116,98,111,100,121]⟩,.string ⟨#[]⟩,.slice none 0 0,.slice av m cv] (XD.out.weaken (fun b hb=>⟨Nat.le_trans Vn.out hb,by have:=WL.out;omega,by have:=HG1.out;omega⟩)) rfl jO rfl (by decide) (by decide) rfl rfl ?_;intro a5 c5 w5 WM hg5;have hgb:(Value.slice (some ⟨g,0,none⟩) 1 1).ownBlock=some g:=rfl;rw [hgb] at hg5 WM;have q5:CB 35 q [.string ⟨#[116,97,98,108,101]⟩,.string ⟨#[]⟩,.slice none 0 0,.slice (some ⟨g,0,none⟩) 1 1] w5:=(hg5.block q (by simp;have:=Jo.out.cq.lt;omega) (fun e=>Jo.out.hg.2 (jm8 e).symm)).trans ((jmj w3 _ q Jo.out.cq.lt).trans Jo.out.cq);have S5:w5.cell? ⟨q,3,none⟩=some (.slice (some ⟨g,0,none⟩) 1 1):=q5.cell 3 _ rfl;have fz:=mg q5;have b35:jp4 W0.heap.size w3 w5:=((jm0 _ w3).alloc Jo.out.aI.size _).grown hg5 (by simp;have:=Jo.out.aI.size;omega) (fun x hx=>by have:=jm8 hx;have:=Jo.out.hg.1;omega);have qM:=hid (Jo.out.aI.trans b35);have jaj:=hid WM;have HQ5:=hid q5;have hq3:q<w3.heap.size:=Jo.out.cq.lt;clear WM hg5 hgb b35 XD q5;refine hK.out _ _ (fun _=>S5) (fun hH2=>?_);clear hK KQ hH;have hH:=hH2 (by decide);clear hH2;try simp only [Act.put,jlk,jlq,jlx]
        refine Gi (i:=6) rfl (by kernel_rfl) (fun KQ hK=>?_);go_simp;refine hK.out _ _ (fun _=>S5) (fun hH2=>?_);clear hK KQ hH;have hH:=hH2 (by decide);clear hH2;try simp only [Act.put,jlk,jlq,jlx]
        refine Gi (i:=7) rfl (by kernel_rfl) (fun KQ hK=>?_);go_simp;refine hK.out _ _ (fun h=>absurd rfl h) (fun _=>?_);clear hK KQ;refine mO (by kernel_rfl) ?_ _;obtain ⟨w6,jH⟩:∃ w6,w6=w5.setCell ⟨q,3,none⟩ (.slice a5 (1+1) c5):=⟨_,rfl⟩;try simp only [Nat.reduceAdd] at jH
        rw [<- jH];have HQ:Hid (CB 35 q [.string ⟨#[116,97,98,108,101]⟩,.string ⟨#[]⟩,.slice none 0 0,.slice a5 2 c5] w6):=by rw [jH];exact dx HQ5.out 3 _
        have BL:jp4 W0.heap.size W0 w6:=by rw [jH];exact qM.out.setCell Qi.out.hq _
        have Zu:Hid (kZ (W0.heap.size<=·) w6 [] [aQ iR [] [aQ xU [] (oZ KW i.data.toList CQ)],aQ wR [] (rs.map (qw Et i))] (.slice none 0 0) (.slice a5 2 c5)):=⟨Rd.aD _ _ _,by
          rw [jH];refine Rd.keep (fun b hb hlt=>⟨?_,Below.heap_setCell w5 ⟨q,3,none⟩ _ b ?_⟩) _ _ jaj.out
          · rcases hb with hb | hb | hb
            · exact hb.1
            · have:=jm8 hb;have:=Qi.out.hg.1;omega
            · have:=Jo.out.aI.size;omega
          · show b≠q
            rcases hb with hb | hb | hb
            · exact hb.2.1
            · have:=jm8 hb;have:=Qi.out.hg.2;omega
            · omega⟩
        clear jH jaj S3 S5 fz hH;obtain ⟨x0,x1,x2,x3,xf⟩:=pY (K1.out.below BL);obtain ⟨y0,y1,y2,y3,-⟩:=cb4 HQ.out;go_upto_region 10 with (fail)
        obtain ⟨w9,bM⟩:∃ w9,w9=four w6 (S+1) (.string ⟨#[116,97,98,108,101]⟩) (.string ⟨#[]⟩) (.slice none 0 0) (.slice a5 2 c5):=⟨_,rfl⟩;have hf:=fE ⟨#[116,97,98,108,101]⟩ ⟨#[]⟩ [] ([aQ iR [] [aQ xU [] (oZ KW i.data.toList CQ)],aQ wR [] (rs.map (qw Et i))]) Da.out Z0.out B0.out K1.out BL Zu.out;rw [<- bM] at hf;have iZ:=hid hf.1;have Bz:=hid hf.2;clear hf;have hw8:=bM;simp only [four] at hw8;clear bM;go_wp2;rw [<- hw8];have r0:=iZ.out.cell 0 _ rfl;have r1:=iZ.out.cell 1 _ rfl;have r2:=iZ.out.cell 2 _ rfl;have r3:=iZ.out.cell 3 _ rfl;exact bodyPost_ret (v:=.agg #[.string ⟨#[116,97,98,108,101]⟩,.string ⟨#[]⟩,.slice none 0 0,.slice a5 2 c5]) (by simp [results,Tryz.results138,go_sem,r0,r1,r2,r3]) rfl (by rw [HTE.out];exact Bz.out)
open Go.RowKit
theorem Jm {ok:Nat->Prop} {w:jp3} {x y:Nd} {c0 c1 c2 c3 d0 d1 d2 d3:jp5} (hm:ok w.heap.size) (hx:Rd ok w x.d [c0,c1,c2,c3]) (hy:Rd ok w y.d [d0,d1,d2,d3]) : Rd ok (w.alloc (.cells #[c0,c1,c2,c3,d0,d1,d2,d3] 35)) (cO [x,y]) [.slice (some ⟨w.heap.size,0,none⟩) 2 2]:=by
  have hb:jp4 w.heap.size w (w.alloc (.cells #[c0,c1,c2,c3,d0,d1,d2,d3] 35)):=(jm0 _ _).alloc (jm1 _) _;have k:CB 35 w.heap.size [c0,c1,c2,c3,d0,d1,d2,d3] (w.alloc (.cells #[c0,c1,c2,c3,d0,d1,d2,d3] 35)):=CB.new _ _ w;have kp:∀ {d:D} {cs:List jp5},Rd ok w d cs->Rd ok (w.alloc (.cells #[c0,c1,c2,c3,d0,d1,d2,d3] 35)) d cs:=fun h=>Rd.keep (fun b hb' hlt=>⟨hb',hb.block b hlt⟩) _ _ h
  exact Rd.slB (l:=[x,y].map Nd.d) (rows:=[[c0,c1,c2,c3],[d0,d1,d2,d3]]) (by simp) (by unfold maxLen;decide) (aH.cons (kp hx) (aH.one (kp hy))) (by simp) hm k.lt (fun j u hu=>k.cell j u (by simpa using hu))
def wS (w:jp3) (E:Nat) (x:Nd) (e:Ending) (w':jp3):Prop:=
  ∃ va vk,e=.returned (.tuple #[.agg #[.string x.nm,.string x.tx,va,vk],.int .i64 (E:Int)])/\kZ (w.heap.size<=·) w' x.at_ x.ks va vk/\jp4 w.heap.size w w'
theorem wS.of {w w':jp3} {E:Nat} {E':Int} {x:Nd} {v:jp5} (h:sI w x (.returned v) w') (hE:E'=(E:Int)):wS w E x (.returned (.tuple #[v,.int .i64 E'])) w':=by
  obtain ⟨va,vk,he,h1,h2⟩:=h;subst hE;injection he with he
  subst he;exact ⟨va,vk,rfl,h1,h2⟩
end Go.Proofs.YtkfnkeflalcphaaGreatDoor

