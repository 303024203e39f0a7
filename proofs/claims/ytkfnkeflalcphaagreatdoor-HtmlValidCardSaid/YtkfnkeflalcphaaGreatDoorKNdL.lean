/- Contract of html.table: the node of a table. A literal of two nodes; what Page leaves. -/
import Derived.Test.YtkfnkeflalcphaaGreatDoorKHtR
set_option maxHeartbeats 8000000
set_option maxRecDepth 100000
open Go.Lib (hid)
namespace Go.Proofs.YtkfnkeflalcphaaGreatDoor
open Go.RowKit.Below renaming refl->jnk,heap_alloc->jo6
open Nat renaming le_refl->jnq
open List renaming length_map->jo2
open Option.some renaming inj->jo4
open Go renaming World->jqz,Value->jr1
open Go.RowKit renaming Below->jr0
open Go.RowKit
set_option linter.unusedVariables false
set_option linter.unusedSimpArgs false
structure TbW (i:ByteArray) (ks:List ah):Prop where
  ne:ks≠[]
  len:ks.length<=900000
  row:∀ r∈ks,r.kids.length=i.size/\r.kids.length<=1000000/\∀ c∈r.kids,LnW c.mI
theorem mg.Fp {ok ok':Nat->Prop} {w w':jqz} {a:At} {li:List aj} {ks:List ah} {vc vp vl vk:jr1} (h:mg ok w a li ks vc vp vl vk) (hs:AJ ok ok' w w'):mg ok' w' a li ks vc vp vl vk:=
  ⟨⟨Rd.keep hs _ _ h.at_.cls,Rd.keep hs _ _ h.at_.aP⟩,Rd.keep hs _ _ h.line,Rd.keep hs _ _ h.kids⟩
structure Ay (W0:jqz) (q:Option Nat) (w:jqz) (d:D) (vs:List jr1):Prop where
  aN:jr0 W0.heap.size W0 w
  cb:∀ p,q=some p->W0.heap.size<=p/\CB 35 p fP w
  rd:Rd (fun b=>W0.heap.size<=b/\some b≠q) w d vs
theorem Ay.far {W0 w w':jqz} {q:Option Nat} {d:D} {vs:List jr1} (h:Ay W0 q w d vs) (hb:jr0 w.heap.size w w'):Ay W0 q w' d vs:=
  ⟨h.aN.trans (hb.mono h.aN.size),fun p hp=>⟨(h.cb p hp).1,(h.cb p hp).2.below hb⟩,h.rd.aV hb⟩
theorem Ay.nd {W0 w w':jqz} {q:Option Nat} {d d':D} {vs vs':List jr1} (h:Ay W0 q w d vs) (hb:jr0 w.heap.size w w') (hr:Rd (w.heap.size<=·) w' d' vs'):Ay W0 q w' d' vs':=
  ⟨(h.far hb).aN,(h.far hb).cb,hr.weaken (fun b hk=>⟨Nat.le_trans h.aN.size hk,fun e=>by have:=(h.cb b e.symm).2.lt;omega⟩)⟩
theorem Ay.zero {W0 w:jqz} {d:D} {vs:List jr1} (h:Ay W0 none w d vs):Ay W0 (some w.heap.size) (w.alloc (.cells #[.string ⟨#[]⟩,.string ⟨#[]⟩,.slice none 0 0,.slice none 0 0] 35)) d vs:=by refine ⟨h.aN.alloc h.aN.size _,fun p hp=>?_,Rd.keep (fun b hb hlt=>⟨⟨hb.1,fun e=>by have:=jo4 e;omega⟩,jo6 w _ b hlt⟩) _ _ h.rd⟩;obtain rfl:=jo4 hp;exact ⟨h.aN.size,CB.new _ fP w⟩
theorem P5 {w:jqz} {g:Nat} {cs:List jr1} (h:CB 35 g cs w) (hl:cs.length=4):w.ownsRow g 35 4 (.slice (some ⟨g,0,none⟩) 1 1) 1 ([cs]:List (List jr1)).flatten:=by
  refine ⟨by simp [hl],.inr ⟨g,1,cs.toArray,rfl,jnq _,h,by simp,by unfold maxLen;omega,?_,?_⟩⟩
  · simp [hl]
  · rw [<- hl];simp
theorem Ay.lit {W0 w:jqz} {q:Option Nat} {x:Nd} {c0 c1 c2 c3:jr1} (h:Ay W0 q w x.d [c0,c1,c2,c3]):Ay W0 q (w.alloc (.cells #[c0,c1,c2,c3] 35)) (dh [x]) [.slice (some ⟨w.heap.size,0,none⟩) 1 1]:=by
  have hb:jr0 w.heap.size w (w.alloc (.cells #[c0,c1,c2,c3] 35)):=(jnk _ _).alloc (jnq _) _;have h2:=h.far hb;refine ⟨h2.aN,h2.cb,Rd.jR (l:=[x.d]) (rows:=[[c0,c1,c2,c3]]) (P5 (CB.new _ [c0,c1,c2,c3] w) rfl) (aQ.one h2.rd) (by simp) (fun g hg=>?_)⟩;have e1:w.heap.size=g:=by simpa [Value.ownBlock] using hg
  exact ⟨by rw [<- e1];exact h.aN.size,fun e=>by have:=(h.cb g e.symm).2.lt;omega⟩
theorem Ay.el {W0 w w':jqz} {q:Option Nat} {ks:List Nd} {v:jr1} (h:Ay W0 q w (dh ks) [v]) (hb:jr0 w.heap.size w w') (n:ByteArray):Ay W0 q w' (aO n [] ks).d [.string n,.string ⟨#[]⟩,.slice none 0 0,v]:=
  ⟨(h.far hb).aN,(h.far hb).cb,Nd.iH n ⟨#[]⟩ ⟨Rd.aD _ _ _,(h.far hb).rd⟩⟩
structure TU (W0:jqz) (q:Option Nat) (g:Nat) (w:jqz) (d:D) (cs:List jr1):Prop where
  aN:jr0 W0.heap.size W0 w
  cb:∀ p,q=some p->W0.heap.size<=p/\CB 35 p fP w
  hg:W0.heap.size<=g/\some g≠q
  cg:CB 35 g cs w
  rd:Rd (fun b=>(W0.heap.size<=b/\some b≠q)/\b≠g) w d cs
theorem TU.far {W0 w w':jqz} {q:Option Nat} {g:Nat} {d:D} {vs:List jr1} (h:TU W0 q g w d vs) (hb:jr0 w.heap.size w w'):TU W0 q g w' d vs:=
  ⟨h.aN.trans (hb.mono h.aN.size),fun p hp=>⟨(h.cb p hp).1,(h.cb p hp).2.below hb⟩,h.hg,h.cg.below hb,h.rd.aV hb⟩
theorem TU.zero {W0 w:jqz} {g:Nat} {d:D} {vs:List jr1} (h:TU W0 none g w d vs):TU W0 (some w.heap.size) g (w.alloc (.cells #[.string ⟨#[]⟩,.string ⟨#[]⟩,.slice none 0 0,.slice none 0 0] 35)) d vs:=by refine ⟨h.aN.alloc h.aN.size _,fun p hp=>?_,⟨h.hg.1,fun e=>by have:=jo4 e;have:=h.cg.lt;omega⟩,h.cg.below ((jnk _ _).alloc (jnq _) _),Rd.keep (fun b hb hlt=>⟨⟨⟨hb.1.1,fun e=>by have:=jo4 e;omega⟩,hb.2⟩,jo6 w _ b hlt⟩) _ _ h.rd⟩;obtain rfl:=jo4 hp;exact ⟨h.aN.size,CB.new _ fP w⟩
theorem Ay.ji9 {W0 w:jqz} {q:Option Nat} {x:Nd} {c0 c1 c2 c3:jr1} (h:Ay W0 q w x.d [c0,c1,c2,c3]):TU W0 q w.heap.size (w.alloc (.cells #[c0,c1,c2,c3] 35)) x.d [c0,c1,c2,c3]:=by have hb:jr0 w.heap.size w (w.alloc (.cells #[c0,c1,c2,c3] 35)):=(jnk _ _).alloc (jnq _) _;have h2:=h.far hb;exact ⟨h2.aN,h2.cb,⟨h.aN.size,fun e=>by have:=(h.cb _ e.symm).2.lt;omega⟩,CB.new _ [c0,c1,c2,c3] w,Rd.keep (fun b hk hlt=>⟨⟨hk,by omega⟩,hb.block b hlt⟩) _ _ h.rd⟩
structure TbJ (W0:jqz) (q g:Nat) (w:jqz) (d:D) (cs:List jr1) (cq:List jr1):Prop where
  aN:jr0 W0.heap.size W0 w
  hq:W0.heap.size<=q
  cq:CB 35 q cq w
  hg:W0.heap.size<=g/\g≠q
  cg:CB 35 g cs w
  rd:Rd (fun b=>W0.heap.size<=b/\b≠q/\b≠g) w d cs
theorem TU.put {W0 w:jqz} {g q:Nat} {d:D} {cs:List jr1} (h:TU W0 (some q) g w d cs) (c0 c1 c2 c3:jr1):TbJ W0 q g (dY w q c0 c1 c2 c3) d cs [c0,c1,c2,c3]:=by
  have h1:=(h.cb q rfl);have Zn:g≠q:=fun e=>h.hg.2 (by rw [e])
  exact ⟨mF h.aN h1.1 _ _ _ _,h1.1,jo h1.2 _ _ _ _,⟨h.hg.1,Zn⟩,(NK w q c0 c1 c2 c3 g Zn).trans h.cg,Rd.keep (fun b hb hlt=>⟨⟨hb.1.1,fun e=>hb.1.2 (by rw [e]),hb.2⟩,NK w q c0 c1 c2 c3 b (fun e=>hb.1.2 (by rw [e]))⟩) _ _ h.rd⟩
theorem TbJ.far {W0 w w':jqz} {q g:Nat} {d:D} {cs cq:List jr1} (h:TbJ W0 q g w d cs cq) (hb:jr0 w.heap.size w w'):TbJ W0 q g w' d cs cq:=
  ⟨h.aN.trans (hb.mono h.aN.size),h.hq,h.cq.below hb,h.hg,h.cg.below hb,h.rd.aV hb⟩
section
variable {T:TypeId} {k:Nat} {ds:List D} {rows:List (List jr1)} {v:jr1} {w:jqz}
theorem Me {n:Nat} {ops:Array Oper} {o:Oper} {a:Act} {K:Act->jqz->Prop} {Q:Exit->Act->jqz->Prop} {E:Prop} (hgd:o.guard=none) (s x:Operand) (t:TypeId) (ho:o.op=.call { callee:=.builtin .append,args:=#[s,x],argTypes:=#[t,t] }) (i:TypeInfo) (z:jr1) (bytes:Nat) (ht:Tryz.prog.underlying t=some (.slice T)) (hi:Tryz.prog.info? T=some i) (hz:i.zero=some z) (hsize:i.size=k) (hby:i.bytes=bytes) (hzs:z.cells.size=k) (hsz:0<k) {B:Nat} {P:Nat->Prop} (hown:w.ownsRow B T k v ds.length rows.flatten) (hB:B<=w.heap.size) (hrd:aQ P w ds rows) (hlen:∀ r∈rows,r.length=k) (hP:∀ b,P b->v.ownBlock≠some b) (d:D) (r:List jr1) (hx:Rd P w d r) (hr:r.length=k) (h1:∀ u∈r,u.oneCell'=true) (hdn:ds.length=n) (hn:n<=10000000) (lI:bytes<=1000) (hs:a.eval s=v) (hxe:a.eval x=.slice (some ⟨w.heap.size,0,none⟩) 1 1) (hK:∀ a' c' w',Rd (fun b=>P b\/v.ownBlock=some b\/w.heap.size<=b) w' (.sl k (ds++[d])) [.slice a' (n+1) c']->(w.alloc (.cells r.toArray T)).grownBy w' v.ownBlock->K (a.put o.dst (.slice a' (n+1) c')) w') : if Region.wanted o (yielded ops a.tmps)=true then Oper.wp Tryz.prog o a (w.alloc (.cells r.toArray T)) K Q else E:=by
  subst hdn;have hmul:(ds.length+1)*bytes<=140737488355328:=Nat.le_trans (Nat.mul_le_mul (show ds.length+1<=10000001 by omega) lI) (by omega);refine step_append_lies _ hgd s x t ho B T i z k bytes ht hi hz hsize hby hzs hsz v ds.length rows.flatten hs (hown.alloc _) ⟨w.heap.size,0,none⟩ 1 1 r hxe (by omega) (Om w r T) h1 (by omega) (by unfold maxLen;omega) hmul (by simp;omega) (w.heap.size+1) (by simp) ?_;intro g cap w' hown hg hat _;have hh:∀ b,P b->b<w.heap.size->w'.heap[b]?=w.heap[b]?:=fun b hb hlt=>(hg.block b (by simp;omega) (fun e=>hP b hb e.symm)).trans (jo6 w _ b hlt)
  have F5:aQ (fun b=>P b\/v.ownBlock=some b\/w.heap.size<=b) w' (ds++[d]) (rows++[r]):=aQ.app (aQ.keep (fun b hb hlt=>⟨.inl hb,hh b hb hlt⟩) _ _ hrd) (aQ.one (Rd.keep (fun b hb hlt=>⟨.inl hb,hh b hb hlt⟩) _ _ hx));have rF:∀ q∈rows++[r],q.length=k:=fun q hq=>(List.mem_append.1 hq).elim (hlen q) (fun h=>by rw [List.mem_singleton.1 h];exact hr)
  have hown2:w'.ownsRow B T k (.slice (some ⟨g,0,none⟩) (ds.length+1) cap) (ds++[d]).length (rows++[r]).flatten:=by rw [List.length_append,List.length_singleton,List.flatten_append];simpa using hown
  refine hK _ _ w' (Rd.jR hown2 F5 rF (fun g' hg'=>?_)) hg;have e1:g=g':=by simpa [Value.ownBlock] using hg'
  subst e1;exact hat.elim (fun e=>.inr (.inl e)) (fun e=>.inr (.inr (by omega)))
end
theorem jij {g b n c:Nat} (h:(Value.slice (some ⟨g,0,none⟩) n c).ownBlock=some b):b=g:=by
  have e:g=b:=by simpa [Value.ownBlock] using h
  exact e.symm
def Di (w1:jqz) (i:ByteArray) (rs:List ah) (v vi:jr1) (wr:jqz):Prop:=
  ∃ (k:Nat) (rows:List (List jr1)),k<=rs.length/\vi=.int .i64 k/\aH 35 4 (fun _=>False) wr.heap.size w1 (((rs.take k).map (lV zT i)).map Nd.d) rows v wr
theorem Ib (k lv:Int) (i t d ti:ByteArray) (at_:At) (li:List aj) (ks:List ah) (vc vp vl vk:jr1) (w:jqz) (hR:mg (·<w.heap.size) w at_ li ks vc vp vl vk) (hT:TbW i ks) : Calls Tryz.prog 138 #[.agg #[.int .i64 k,.int .i64 lv,.string i,.string t,.string d,.string ti,.string at_.id,vc,vp,vl,vk]] w (uR w (Aw i ks)):=by
  obtain ⟨ac,nc,cc,rfl⟩:=Rd.au hR.at_.cls
  obtain ⟨ap,np,cp,rfl⟩:=Rd.au hR.at_.aP
  obtain ⟨al,nl,cl,rfl⟩:=Rd.au hR.line;obtain ⟨ak,ck,hvk,hs⟩:=Rd.aC hR.kids;obtain ⟨nk,hnk⟩:∃ nk,nk=ks.length:=⟨_,rfl⟩;obtain rfl:vk=.slice ak nk ck:=by rw [hnk];simpa using hvk
  obtain ⟨x0,rs,rfl⟩:∃ x0 rs,ks=x0::rs:=by
    cases ks with
    | nil=>exact absurd rfl hT.ne
    | cons a b=>exact ⟨a,b,rfl⟩
  have hcap:nk<=ck:=by have:=hs.le;rw [jo2] at this;omega
  have hmx:=hs.max;unfold maxLen at hmx;have jd1:nk=rs.length+1:=by rw [hnk,List.length_cons]
  have ja1:nk<=900000:=by have:=hT.len;omega
  obtain ⟨S,W0,hS,hW0,z0,k0,k1,b0⟩:=wG 48 w [.int .i64 k,.int .i64 lv,.string i,.string t,.string d,.string ti,.string at_.id,.slice ac nc cc,.slice ap np cp,.slice al nl cl,.slice ak nk ck];have hs2:mo (·<S) W0 11 ((x0::rs).map ah.d) ak ck:=by subst hS;exact hs.below b0
  have hT0:=hT.row x0 (List.mem_cons_self ..);have hTR:=fun r hr=>hT.row r (List.mem_cons_of_mem _ hr)
  obtain ⟨xk,Ym,xi,xt,xd,Yn,Yo,xli,Ei⟩:=x0;obtain ⟨ga,off,xvc,xvp,xvl,xvk,rfl,hok,hbl,hc,hR0⟩:=iA (k:=0) hs2 rfl;obtain ⟨xac,xnc,xcc,rfl⟩:=Rd.au hR0.at_.cls
  obtain ⟨xap,xnp,xcp,rfl⟩:=Rd.au hR0.at_.aP
  obtain ⟨xal,xnl,xcl,rfl⟩:=Rd.au hR0.line;obtain ⟨xak,xnk,xck,rfl⟩:=Rd.au hR0.kids;have hc:=show dM W0 ga off xk Ym xi xt xd Yn Yo.id (.slice xac xnc xcc) (.slice xap xnp xcp) (.slice xal xnl xcl) (.slice xak xnk xck) by simpa using hc
  have CX:Hid (∀ w':jqz,jr0 W0.heap.size W0 w'->w'.cell? ⟨S,2,none⟩=some (.string i)/\w'.cell? ⟨S,10,none⟩=some (.slice (some ⟨ga,off,none⟩) nk ck)/\dM w' ga off xk Ym xi xt xd Yn Yo.id (.slice xac xnc xcc) (.slice xap xnp xcp) (.slice xal xnl xcl) (.slice xak xnk xck)):=fun w' hb=>
    ⟨(k0.below hb).cell 2 _ rfl,(k0.below hb).cell 10 _ rfl,hc.at2 (hb.block ga hbl)⟩
  have RC:Hid (∀ w':jqz,jr0 W0.heap.size W0 w'->Calls Tryz.prog 174 #[.agg #[.int .i64 xk,.int .i64 Ym,.string xi,.string xt,.string xd,.string Yn,.string Yo.id,.slice xac xnc xcc,.slice xap xnp xcp,.slice xal xnl xcl,.slice xak xnk xck],.string ⟨#[116,104]⟩,.string i] w' (uR w' (aO wX [] (aT IV i.data.toList Ei)))):=fun w' hb=>
    Fy xk Ym xi xt xd Yn Yo xli Ei _ _ _ _ IV i w' (mg.Fp hR0 (fun b (hb':b<S) hlt=>⟨by show b<w'.heap.size;have:=hb.size;omega,hb.block b (by omega)⟩)) hT0.1 hT0.2.1 hT0.2.2
  have HS2:=hid hs2;have GU:=hid hS;have HW0:=hid hW0;have Z0:=hid z0;have B0:=hid b0;have K1:=hid k1;have Zo:=hid hTR;have EW:=hid jd1;have jm9:0<nk:=by omega
  have jmj:(0:Int)<(nk:Int):=by omega
  clear hR hvk hs hs2 hS hW0 z0 k0 k1 b0 hc hT0 hTR hT hnk jd1 hR0;go_enter Tryz.func138,Tryz.ntmps138;go_upto_region 1 with (fail)
  rw [<- GU.out];have hk0:=HW0.out;simp only [fP] at hk0;rw [<- hk0];clear hk0
  go_cut [3] (fun s3 wx=>∃ q g f,s3=.pointer (some ⟨q,0,none⟩)/\TbJ W0 q g wx (aO jf [] [aO wX [] (aT IV i.data.toList Ei)]).d [.string ⟨#[116,104,101,97,100]⟩,.string ⟨#[]⟩,.slice none 0 0,.slice (some ⟨f,0,none⟩) 1 1] [.string ⟨#[116,97,98,108,101]⟩,.string ⟨#[]⟩,.slice none 0 0,.slice (some ⟨g,0,none⟩) 1 1])
  case first=>
    refine M4 12 (fun w'=>jr0 W0.heap.size W0 w') (by kernel_rfl) (jnk _ _).drew ?_;intro hH;refine dw 0 rfl (by kernel_rfl) hH (by rfl) (by intro wv hSw;obtain ⟨e2,e10,c0,c1,c2,c3,c4,c5,c6,c7,c8,c9,c10⟩:=CX.out wv hSw;go_simp;try with_reducible rfl) ?_;refine dw 1 rfl (by kernel_rfl) hH (by rfl) (by intro wv hSw;obtain ⟨e2,e10,c0,c1,c2,c3,c4,c5,c6,c7,c8,c9,c10⟩:=CX.out wv hSw;go_simp;try with_reducible rfl) ?_;refine dw 2 rfl (by kernel_rfl) hH (by rfl) (by intro wv hSw;obtain ⟨e2,e10,c0,c1,c2,c3,c4,c5,c6,c7,c8,c9,c10⟩:=CX.out wv hSw;go_simp;try with_reducible rfl) ?_;refine dw 3 rfl (by kernel_rfl) hH (by rfl) (by intro wv hSw;obtain ⟨e2,e10,c0,c1,c2,c3,c4,c5,c6,c7,c8,c9,c10⟩:=CX.out wv hSw;go_simp;try with_reducible rfl) ?_;refine dw 4 rfl (by kernel_rfl) hH (by rfl) (by intro wv hSw;obtain ⟨e2,e10,c0,c1,c2,c3,c4,c5,c6,c7,c8,c9,c10⟩:=CX.out wv hSw;go_simp;try with_reducible rfl) ?_;refine dw 5 rfl (by kernel_rfl) hH (by rfl) (by intro wv hSw;obtain ⟨e2,e10,c0,c1,c2,c3,c4,c5,c6,c7,c8,c9,c10⟩:=CX.out wv hSw;go_simp;try with_reducible rfl) ?_;obtain ⟨y,hy0⟩:∃ y,y=W0.drew:=⟨_,rfl⟩;rw [<- hy0] at hH;rw [<- hy0];clear hy0;have HY:Hid (Ay W0 none y (dh []) [.slice none 0 0]):=⟨hH,fun p hp=>by simp at hp,Rd.aD _ _ _⟩;refine J7 (i:=6) (j:=11) rfl rfl (by decide +kernel) (fun KQ hK=>?_) (fun KQ hK=>?_);rotate_left;go_simp;obtain ⟨q,hf⟩:∃ q,q=y.heap.size:=⟨_,rfl⟩;have jg:=hid HY.out.zero;obtain ⟨y,hN⟩:∃ y2,y2=y.alloc (.cells #[.string ⟨#[]⟩,.string ⟨#[]⟩,.slice none 0 0,.slice none 0 0] 35):=⟨_,rfl⟩;rw [<- hN,<- hf] at jg;rw [<- hN,<- hf];clear hN hf;refine hK.out _ _ (fun _ _=>jg.out.aN) (fun hH2=>?_);clear hK KQ hH;have hH:=hH2 (by decide) (by kernel_rfl);clear hH2;clear HY;have HY:=jg;clear jg;refine dO (i:=6) rfl (by kernel_rfl) (fun KQ hK=>?_);all_goals
      go_simp;go_at_call 174
      (with_reducible refine (RC.out _ HY.out.aN).mono ?_)
      rintro e y ⟨va,vk,he,hR,hb⟩;obtain ⟨aA,nA,cA,rfl⟩:=Rd.au hR.at_
      obtain ⟨aK,nK,cK,rfl⟩:=Rd.au hR.ks;have he:e=.returned (.agg #[.string wX,.string ⟨#[]⟩,.slice aA nA cA,.slice aK nK cK]):=he;subst he;have jg:=hid (HY.out.nd hb (Nd.iH wX ⟨#[]⟩ hR));clear hb hR;refine hK.out _ _ (fun _ _=>jg.out.aN) (fun hH2=>?_);clear hK KQ hH;have hH:=hH2 (by decide) (by kernel_rfl);clear hH2;clear HY;have HY:=jg;clear jg
    all_goals
      first
        | (refine J7 (i:=7) (j:=11) rfl rfl (by decide +kernel) (fun KQ hK=>?_) (fun KQ hK=>?_)
           rotate_left;go_simp;obtain ⟨q,hf⟩:∃ q,q=y.heap.size:=⟨_,rfl⟩;have jg:=hid HY.out.zero;obtain ⟨y,hN⟩:∃ y2,y2=y.alloc (.cells #[.string ⟨#[]⟩,.string ⟨#[]⟩,.slice none 0 0,.slice none 0 0] 35):=⟨_,rfl⟩;rw [<- hN,<- hf] at jg;rw [<- hN,<- hf];clear hN hf;refine hK.out _ _ (fun _ _=>jg.out.aN) (fun hH2=>?_);clear hK KQ hH;have hH:=hH2 (by decide) (by kernel_rfl);clear hH2;clear HY;have HY:=jg;clear jg;refine dO (i:=7) rfl (by kernel_rfl) (fun KQ hK=>?_))
        | refine dO (i:=7) rfl (by kernel_rfl) (fun KQ hK=>?_)
    all_goals
      go_simp;obtain ⟨f,hf⟩:∃ f,f=y.heap.size:=⟨_,rfl⟩;have jg:=hid HY.out.lit;obtain ⟨y,hN⟩:∃ y2,y2=y.alloc (.cells #[.string wX,.string ⟨#[]⟩,.slice aA nA cA,.slice aK nK cK] 35):=⟨_,rfl⟩;rw [<- hN,<- hf] at jg;rw [<- hN,<- hf];clear hN hf;refine hK.out _ _ (fun _ _=>jg.out.aN) (fun hH2=>?_);clear hK KQ hH;have hH:=hH2 (by decide) (by kernel_rfl);clear hH2;clear HY;have HY:=jg;clear jg
    all_goals
      first
        | (refine J7 (i:=8) (j:=11) rfl rfl (by decide +kernel) (fun KQ hK=>?_) (fun KQ hK=>?_)
           rotate_left;go_simp;obtain ⟨q,hf⟩:∃ q,q=y.heap.size:=⟨_,rfl⟩;have jg:=hid HY.out.zero;obtain ⟨y,hN⟩:∃ y2,y2=y.alloc (.cells #[.string ⟨#[]⟩,.string ⟨#[]⟩,.slice none 0 0,.slice none 0 0] 35):=⟨_,rfl⟩;rw [<- hN,<- hf] at jg;rw [<- hN,<- hf];clear hN hf;refine hK.out _ _ (fun _ _=>jg.out.aN) (fun hH2=>?_);clear hK KQ hH;have hH:=hH2 (by decide) (by kernel_rfl);clear hH2;clear HY;have HY:=jg;clear jg;refine dO (i:=8) rfl (by kernel_rfl) (fun KQ hK=>?_))
        | refine dO (i:=8) rfl (by kernel_rfl) (fun KQ hK=>?_)
    all_goals
      go_simp;go_at_call 40
      (with_reducible refine (lD ⟨#[116,104,101,97,100]⟩ none (some ⟨f,0,none⟩) 0 1 0 1 _).mono ?_)
      rintro e y ⟨rfl,hb⟩;have jg:=hid (HY.out.el hb ⟨#[116,104,101,97,100]⟩);clear hb;refine hK.out _ _ (fun _ _=>jg.out.aN) (fun hH2=>?_);clear hK KQ hH;have hH:=hH2 (by decide) (by kernel_rfl);clear hH2;clear HY;have HY:=jg;clear jg
    all_goals
      first
        | (refine J7 (i:=9) (j:=11) rfl rfl (by decide +kernel) (fun KQ hK=>?_) (fun KQ hK=>?_)
           rotate_left;go_simp;obtain ⟨q,hf⟩:∃ q,q=y.heap.size:=⟨_,rfl⟩;have jg:=hid HY.out.zero;obtain ⟨y,hN⟩:∃ y2,y2=y.alloc (.cells #[.string ⟨#[]⟩,.string ⟨#[]⟩,.slice none 0 0,.slice none 0 0] 35):=⟨_,rfl⟩;rw [<- hN,<- hf] at jg;rw [<- hN,<- hf];clear hN hf;refine hK.out _ _ (fun _ _=>jg.out.aN) (fun hH2=>?_);clear hK KQ hH;have hH:=hH2 (by decide) (by kernel_rfl);clear hH2;clear HY;have HY:=jg;clear jg;refine dO (i:=9) rfl (by kernel_rfl) (fun KQ hK=>?_))
        | refine dO (i:=9) rfl (by kernel_rfl) (fun KQ hK=>?_)
    all_goals
      go_simp;obtain ⟨g,hf⟩:∃ f,f=y.heap.size:=⟨_,rfl⟩;have jg:=hid HY.out.ji9;obtain ⟨y,hN⟩:∃ y2,y2=y.alloc (.cells #[.string ⟨#[116,104,101,97,100]⟩,.string ⟨#[]⟩,.slice none 0 0,.slice (some ⟨f,0,none⟩) 1 1] 35):=⟨_,rfl⟩;rw [<- hN,<- hf] at jg;rw [<- hN,<- hf];clear hN hf;refine hK.out _ _ (fun _ _=>jg.out.aN) (fun hH2=>?_);clear hK KQ hH;have hH:=hH2 (by decide) (by kernel_rfl);clear hH2;clear HY;have HY:=jg;clear jg
    all_goals
      first
        | (refine J7 (i:=10) (j:=11) rfl rfl (by decide +kernel) (fun KQ hK=>?_) (fun KQ hK=>?_)
           rotate_left;go_simp;obtain ⟨q,hf⟩:∃ q,q=y.heap.size:=⟨_,rfl⟩;have jg:=hid HY.out.zero;obtain ⟨y,hN⟩:∃ y2,y2=y.alloc (.cells #[.string ⟨#[]⟩,.string ⟨#[]⟩,.slice none 0 0,.slice none 0 0] 35):=⟨_,rfl⟩;rw [<- hN,<- hf] at jg;rw [<- hN,<- hf];clear hN hf;refine hK.out _ _ (fun _ _=>jg.out.aN) (fun hH2=>?_);clear hK KQ hH;have hH:=hH2 (by decide) (by kernel_rfl);clear hH2;clear HY;have HY:=jg;clear jg;refine dO (i:=10) rfl (by kernel_rfl) (fun KQ hK=>?_))
        | refine dO (i:=10) rfl (by kernel_rfl) (fun KQ hK=>?_)
    all_goals
      go_simp;go_at_call 40
      (with_reducible refine (lD ⟨#[116,97,98,108,101]⟩ none (some ⟨g,0,none⟩) 0 1 0 1 _).mono ?_)
      rintro e y ⟨rfl,hb⟩;have jg:=hid (HY.out.far hb);clear hb;refine hK.out _ _ (fun _ _=>jg.out.aN) (fun hH2=>?_);clear hK KQ hH;have hH:=hH2 (by decide) (by kernel_rfl);clear hH2;clear HY;have HY:=jg;clear jg
    all_goals
      first
        | (refine dO (i:=11) rfl (by decide +kernel) (fun KQ hK=>?_)
           go_simp;obtain ⟨q,hf⟩:∃ q,q=y.heap.size:=⟨_,rfl⟩;have jg:=hid HY.out.zero;obtain ⟨y,hN⟩:∃ y2,y2=y.alloc (.cells #[.string ⟨#[]⟩,.string ⟨#[]⟩,.slice none 0 0,.slice none 0 0] 35):=⟨_,rfl⟩;rw [<- hN,<- hf] at jg;rw [<- hN,<- hf];clear hN hf;refine hK.out _ _ (fun _ _=>jg.out.aN) (fun hH2=>?_);clear hK KQ hH;have hH:=hH2 (by decide) (by kernel_rfl);clear hH2;clear HY;have HY:=jg;clear jg)
        | skip
    all_goals
      refine dO (i:=12) rfl (by kernel_rfl) (fun KQ hK=>?_);obtain ⟨x0,x1,x2,x3,xf⟩:=oC (HY.out.cb q rfl).2;go_simp;have HJ:=hid (HY.out.put (.string ⟨#[116,97,98,108,101]⟩) (.string ⟨#[]⟩) (.slice none 0 0) (.slice (some ⟨g,0,none⟩) 1 1));clear x0 x1 x2 x3 xf;refine hK.out _ _ (fun h=>absurd rfl h) (fun _=>?_);clear hK KQ hH;refine Fx (by kernel_rfl) ?_ _;go_wp2
      go_meet
      exact ⟨q,g,f,rfl,HJ.out⟩
  case rest=>
    obtain ⟨q,g,f,rfl,hJ⟩:=hcut;obtain ⟨w1,hw1⟩:∃ w1:jqz,w1=wc:=⟨_,rfl⟩;subst hw1;have HJ:=hid hJ;obtain ⟨-,e10,-⟩:=CX.out w1 hJ.aN;obtain ⟨iN,GR,oQ,oV,oW⟩:=info_parts nM;obtain ⟨nr,hnr⟩:∃ nr,nr=nk-1:=⟨_,rfl⟩;have IZ:Hid (nr=rs.length):=by have:=EW.out;show _=_;omega
    have jmk:nr<=900000:=by omega
    have R0:Hid (Di w1 i rs (.slice none 0 0) (.int .i64 0) w1):=⟨0,[],Nat.zero_le _,rfl,aH.nil _ _ _ _⟩;have hZ0:W0.heap.size=S+2:=Z0.out;clear hJ;by_cases hck:ck=1
    case' pos=>
      have hnz:nr=0:=by omega
      subst hck;go_upto_region 4 with (fail)
      subst hnz;clear hnr e10
      go_loopw [4,22] (fun v vi wr=>Di w1 i rs v vi wr) (fun _ vi _=>0-(intOf vi).toNat)
      case atStart=>exact R0.out
      case' round=>
        clear R0;obtain ⟨j,rows,hj,rfl,hrow⟩:=hrel;obtain ⟨ds,hds⟩:∃ ds,ds=((rs.take j).map (lV zT i)).map Nd.d:=⟨_,rfl⟩;rw [<- hds] at hrow;obtain ⟨m,hm⟩:∃ m,m=ds.length:=⟨_,rfl⟩;have hmj:m<=1000000:=by have h2:(rs.take j).length<=rs.length:=List.length_take_le' _ _;rw [hm,hds,jo2,jo2];have:=IZ.out;omega
        obtain ⟨av,cv,rfl,-,-⟩:=hrow.cap hm.symm;have HM:=hid hm.symm;have GQ:=hid hds;have bU:=hid hrow;clear hrow hm hds;by_cases hlt:j<0
        · exact absurd hlt (by omega)
        have hkl:j=0:=by have:=IZ.out;omega
    case' neg=>
      obtain ⟨ck2,jd2⟩:∃ ck2,ck2=ck-1:=⟨_,rfl⟩;go_upto_region 4 with (fail)
      rw [<- hnr,<- jd2];have hcc:nr<=ck2:=by omega
      clear hnr e10 jd2 hck
      go_loopw [4,22] (fun v vi wr=>Di w1 i rs v vi wr) (fun _ vi _=>nr-(intOf vi).toNat)
      case atStart=>exact R0.out
      case' round=>
        clear R0;obtain ⟨j,rows,hj,rfl,hrow⟩:=hrel;obtain ⟨ds,hds⟩:∃ ds,ds=((rs.take j).map (lV zT i)).map Nd.d:=⟨_,rfl⟩;rw [<- hds] at hrow;obtain ⟨m,hm⟩:∃ m,m=ds.length:=⟨_,rfl⟩;have hmj:m<=1000000:=by have h2:(rs.take j).length<=rs.length:=List.length_take_le' _ _;rw [hm,hds,jo2,jo2];have:=IZ.out;omega
        obtain ⟨av,cv,rfl,-,-⟩:=hrow.cap hm.symm;have HM:=hid hm.symm;have GQ:=hid hds;have bU:=hid hrow;clear hrow hm hds;by_cases hlt:j<nr
        · obtain ⟨y,hy⟩:∃ y,rs[j]?=some y:=⟨_,List.getElem?_eq_getElem (by have:=IZ.out;omega)⟩
          have hsn:=qU (lV zT i) rs j y hy;have hw:=Zo.out y (List.mem_of_getElem? hy);obtain ⟨yk,J3,yi,yt,yd,J4,Ie,LD,EY⟩:=y;have hw:EY.length=i.size/\EY.length<=1000000/\∀ c∈EY,LnW c.mI:=hw;obtain ⟨g2,off2,vc,vp,vl,vk,hge,hok2,Yp,hc2,hR2⟩:=iA (k:=j+1) HS2.out (show (ah.mk xk Ym xi xt xd Yn Yo xli Ei::rs)[j+1]?=some (.mk yk J3 yi yt yd J4 Ie LD EY) by simpa using hy);obtain ⟨rfl,rfl⟩:ga=g2/\off=off2:=by simpa using hge
          have hbr:jr0 W0.heap.size W0 wr:=HJ.out.aN.trans (bU.out.aN.mono HJ.out.aN.size);have hc2:dM W0 ga (off+11+j*11) yk J3 yi yt yd J4 Ie.id vc vp vl vk:=by rw [show off+11+j*11=off+(j+1)*11 by omega];exact hc2
          obtain ⟨c0,c1,c2,c3,c4,c5,c6,c7,c8,c9,c10⟩:=hc2.at2 (w':=wr) (hbr.block ga hbl);obtain ⟨Oa,Ob,Oc,rfl⟩:=Rd.au hR2.at_.cls
          obtain ⟨Od,Oe,Og,rfl⟩:=Rd.au hR2.at_.aP
          obtain ⟨Ee,Ef,Eh,rfl⟩:=Rd.au hR2.line;obtain ⟨Oh,Oi,Oj,rfl⟩:=Rd.au hR2.kids;have RC2:Hid (∀ w':jqz,jr0 W0.heap.size W0 w'->Calls Tryz.prog 174 #[.agg #[.int .i64 yk,.int .i64 J3,.string yi,.string yt,.string yd,.string J4,.string Ie.id,.slice Oa Ob Oc,.slice Od Oe Og,.slice Ee Ef Eh,.slice Oh Oi Oj],.string ⟨#[116,100]⟩,.string i] w' (uR w' (aO wX [] (aT zT i.data.toList EY)))):=fun w' hb=>
            Fy yk J3 yi yt yd J4 Ie LD EY _ _ _ _ zT i w' (mg.Fp hR2 (fun b (hb':b<S) hlt=>⟨by show b<w'.heap.size;have:=hb.size;omega,hb.block b (by omega)⟩)) hw.1 hw.2.1 hw.2.2
          have rX:=hid (show ((rs.take (j+1)).map (lV zT i)).map Nd.d=ds++[(aO wX [] (aT zT i.data.toList EY)).d] by rw [hsn,List.map_append,GQ.out];rfl);have HBR:=hid hbr;clear hy hsn hw hge hok2 Yp hc2 hR2 hbr;go_upto_region 6 with (fail)
          obtain ⟨p,hp⟩:∃ p,p=wr.heap.size:=⟨_,rfl⟩;obtain ⟨wA,gD⟩:∃ wA,wA=wr.alloc (.cells #[.int .i64 yk,.int .i64 J3,.string yi,.string yt,.string yd,.string J4,.string Ie.id,.slice Oa Ob Oc,.slice Od Oe Og,.slice Ee Ef Eh,.slice Oh Oi Oj] 48):=⟨_,rfl⟩;have PA:CB 48 p [.int .i64 yk,.int .i64 J3,.string yi,.string yt,.string yd,.string J4,.string Ie.id,.slice Oa Ob Oc,.slice Od Oe Og,.slice Ee Ef Eh,.slice Oh Oi Oj] wA:=by rw [gD,hp];exact CB.new _ _ wr
          have bA:jr0 wr.heap.size wr wA:=by rw [gD];exact (jnk _ _).alloc (jnq _) _
          rw [<- gD,<- hp];have BA:=hid bA;have Y7:jr0 W0.heap.size W0 wA:=HBR.out.trans (bA.mono HBR.out.size);obtain ⟨e2,-,-⟩:=CX.out wA Y7;have d0:=PA.cell 0 _ rfl;have d1:=PA.cell 1 _ rfl;have d2:=PA.cell 2 _ rfl;have d3:=PA.cell 3 _ rfl;have d4:=PA.cell 4 _ rfl;have d5:=PA.cell 5 _ rfl;have d6:=PA.cell 6 _ rfl;have d7:=PA.cell 7 _ rfl;have d8:=PA.cell 8 _ rfl;have d9:=PA.cell 9 _ rfl;have d10:=PA.cell 10 _ rfl;have RC3:=hid (RC2.out wA Y7);have hpw:wr.heap.size<=wA.heap.size:=bA.size;clear gD hp c0 c1 c2 c3 c4 c5 c6 c7 c8 c9 c10 PA bA Y7 RC2;go_wp2_with fail
          (with_reducible refine RC3.out.mono ?_)
          rintro e w2 ⟨va,vk,he,hR2,hb2⟩;obtain ⟨aA,nA,cA,rfl⟩:=Rd.au hR2.at_
          obtain ⟨aK,nK,cK,rfl⟩:=Rd.au hR2.ks;have he:e=.returned (.agg #[.string wX,.string ⟨#[]⟩,.slice aA nA cA,.slice aK nK cK]):=he;subst he;have U2:=hid ((bU.out.below BA.out).below hb2);have XD:=hid ((Nd.iH wX ⟨#[]⟩ hR2).weaken (ok':=fun b=>False\/wr.heap.size<=b) (fun b hb=>.inr (Nat.le_trans hpw hb)));clear RC3 hR2 hb2 d0 d1 d2 d3 d4 d5 d6 d7 d8 d9 d10 e2;go_wp2_with (at_builtin;refine jN rfl _ _ 28 rfl iN _ 80 Tryz.underlying28 GR oQ oV oW rfl (by decide) U2.out (fun _=>False.elim) (aO wX [] (aT zT i.data.toList EY)).d [.string wX,.string ⟨#[]⟩,.slice aA nA cA,.slice aK nK cK] XD.out rfl kE HM.out (by omega) (by decide) rfl rfl ?_)
          intro a' c' w5 hrow hg5;have HF:Hid (Di w1 i rs (.slice a' (m+1) c') (.int .i64 ((j+1:Nat):Int)) w5):=⟨j+1,_,by have:=IZ.out;omega,rfl,by rw [rX.out];exact hrow⟩;clear hrow hg5 XD U2 bU;go_wp2;go_roundw;case rel=>exact HF.out
          case measure=>simp [intOf];omega
        have hkl:j=nr:=by have:=IZ.out;omega
    all_goals
      have hjr:j=rs.length:=by have:=IZ.out;omega
      have HNV:Hid (Rd (w1.heap.size<=·) wr (dh (rs.map (lV zT i))) [.slice av m cv]):=by have h:=bU.out.eP;rw [GQ.out,hjr,List.take_length] at h;exact h
      have Ry:=hid (HJ.out.far bU.out.aN);have WH:Hid (W0.heap.size<=w1.heap.size):=HJ.out.aN.size;have HQ1:Hid (q<w1.heap.size):=HJ.out.cq.lt;have HG1:Hid (g<w1.heap.size):=HJ.out.cg.lt;by_cases hm0:m=0
      · have HE:Hid (rs=[]):=by
          have:=HM.out;rw [GQ.out,hjr] at this;simp at this;exact List.length_eq_zero_iff.1 (by omega)
        subst hm0;have BL:=Ry.out.aN;have HQ:=hid Ry.out.cq;have HNR:Hid (gF (W0.heap.size<=·) wr [] [aO jf [] [aO wX [] (aT IV i.data.toList Ei)]] (.slice none 0 0) (.slice (some ⟨g,0,none⟩) 1 1)):=⟨Rd.aD _ _ _,Rd.jR (l:=[(aO jf [] [aO wX [] (aT IV i.data.toList Ei)]).d]) (rows:=[[.string ⟨#[116,104,101,97,100]⟩,.string ⟨#[]⟩,.slice none 0 0,.slice (some ⟨f,0,none⟩) 1 1]]) (P5 Ry.out.cg rfl) (aQ.one (Ry.out.rd.weaken (fun b hb=>hb.1))) (by simp) (fun b hb=>by
          have e1:g=b:=by simpa [Value.ownBlock] using hb
          rw [<- e1];exact Ry.out.hg.1)⟩
        have HTE:Hid (Aw i (ah.mk xk Ym xi xt xd Yn Yo xli Ei::rs)=aO xS [] [aO jf [] [aO wX [] (aT IV i.data.toList Ei)]]):=by show _=_;rw [HE.out];rfl
        obtain ⟨x0,x1,x2,x3,xf⟩:=oC (K1.out.below BL);obtain ⟨y0,y1,y2,y3,-⟩:=cb4 HQ.out;go_upto_region 10 with (fail)
        obtain ⟨w9,dU⟩:∃ w9,w9=dY wr (S+1) (.string ⟨#[116,97,98,108,101]⟩) (.string ⟨#[]⟩) (.slice none 0 0) (.slice (some ⟨g,0,none⟩) 1 1):=⟨_,rfl⟩;have hf:=gK ⟨#[116,97,98,108,101]⟩ ⟨#[]⟩ [] ([aO jf [] [aO wX [] (aT IV i.data.toList Ei)]]) GU.out Z0.out B0.out K1.out BL HNR.out;rw [<- dU] at hf;have mK:=hid hf.1;have Il:=hid hf.2;clear hf;have hw8:=dU;simp only [dY] at hw8;clear dU;go_wp2;rw [<- hw8];have r0:=mK.out.cell 0 _ rfl;have r1:=mK.out.cell 1 _ rfl;have r2:=mK.out.cell 2 _ rfl;have r3:=mK.out.cell 3 _ rfl;exact bodyPost_ret (v:=.agg #[.string ⟨#[116,97,98,108,101]⟩,.string ⟨#[]⟩,.slice none 0 0,.slice (some ⟨g,0,none⟩) 1 1]) (by simp [results,Tryz.results138,go_sem,r0,r1,r2,r3]) rfl (by rw [HTE.out];exact Il.out)
      · have hm1:0<m:=by omega
        have HE:Hid (rs.isEmpty=false):=by
          show _=_;cases hrs:rs with
          | nil=>
            have:=HM.out;rw [GQ.out,hrs] at this;simp at this;omega
          | cons _ _=>rfl
        have S0:wr.drew.cell? ⟨q,3,none⟩=some (.slice (some ⟨g,0,none⟩) 1 1):=Ry.out.cq.cell 3 _ rfl;have HTE:Hid (Aw i (ah.mk xk Ym xi xt xd Yn Yo xli Ei::rs)=aO xS [] [aO jf [] [aO wX [] (aT IV i.data.toList Ei)],aO sP [] (rs.map (lV zT i))]):=by show aO xS [] (aO jf [] [aO wX [] (aT IV i.data.toList Ei)]::if rs.isEmpty=true then [] else [aO sP [] (rs.map (lV zT i))])=_;rw [HE.out];rfl
        clear hkl hjr hm0;go_upto_region 9 with (fail)
        refine nT 7 (fun w'=>w'.cell? ⟨q,3,none⟩=some (.slice (some ⟨g,0,none⟩) 1 1)) (by kernel_rfl) S0 ?_;intro hH;refine Rk 0 rfl (by kernel_rfl) hH (by rfl) (by intro wv hSw;(try dsimp only at hSw);go_simp;try with_reducible rfl) ?_;refine Rk 1 rfl (by kernel_rfl) hH (by rfl) (by intro wv hSw;(try dsimp only at hSw);go_simp;try with_reducible rfl) ?_;refine Rk 2 rfl (by kernel_rfl) hH (by rfl) (by intro wv hSw;(try dsimp only at hSw);go_simp;try with_reducible rfl) ?_;refine H9 (i:=3) rfl (by kernel_rfl) (fun KQ hK=>?_);go_simp;go_at_call 40
        (with_reducible refine (lD ⟨#[116,98,111,100,121]⟩ none av 0 m 0 cv _).mono ?_)
        rintro e w3 ⟨rfl,b3⟩;have B3:jr0 wr.heap.size wr w3:=((jnk _ _).drew).trans b3;have Ku:=hid (Ry.out.far B3);have S3:w3.cell? ⟨q,3,none⟩=some (.slice (some ⟨g,0,none⟩) 1 1):=Ku.out.cq.cell 3 _ rfl;have XD:=hid (show Rd (fun b=>w1.heap.size<=b) w3 (aO ⟨#[116,98,111,100,121]⟩ [] (rs.map (lV zT i))).d [.string ⟨#[116,98,111,100,121]⟩,.string ⟨#[]⟩,.slice none 0 0,.slice av m cv] from Nd.iH ⟨#[116,98,111,100,121]⟩ ⟨#[]⟩ ⟨Rd.aD _ _ _,HNV.out.aV B3⟩);have HB3:=hid B3;clear b3 B3 S0;refine hK.out _ _ (fun _=>S3) (fun hH2=>?_);clear hK KQ hH;have hH:=hH2 (by decide);clear hH2;refine H9 (i:=4) rfl (by kernel_rfl) (fun KQ hK=>?_);go_simp;refine hK.out _ _ (fun _=>past S3 _) (fun hH2=>?_);clear hK KQ hH;have hH:=hH2 (by decide);clear hH2;refine H9 (i:=5) rfl (by kernel_rfl) (fun KQ hK=>?_);refine Me (n:=1) rfl (.tmp 38) (.tmp 41) 28 rfl iN _ 80 Tryz.underlying28 GR oQ oV oW rfl (by decide) (ds:=[(aO jf [] [aO wX [] (aT IV i.data.toList Ei)]).d]) (rows:=[[.string ⟨#[116,104,101,97,100]⟩,.string ⟨#[]⟩,.slice none 0 0,.slice (some ⟨f,0,none⟩) 1 1]]) (v:=.slice (some ⟨g,0,none⟩) 1 1) (P:=fun b=>W0.heap.size<=b/\b≠q/\b≠g) (P5 Ku.out.cg rfl) (Nat.le_of_lt Ku.out.cg.lt) (aQ.one Ku.out.rd) (by simp) (fun b hb e=>hb.2.2 (jij e)) (aO ⟨#[116,98,111,100,121]⟩ [] (rs.map (lV zT i))).d [.string ⟨#[116,98,111,100,121]⟩,.string ⟨#[]⟩,.slice none 0 0,.slice av m cv] (XD.out.weaken (fun b hb=>⟨Nat.le_trans WH.out hb,by have:=HQ1.out;omega,by have:=HG1.out;omega⟩)) rfl kE rfl (by decide) (by decide) rfl rfl ?_;intro a5 c5 w5 Yq hg5;have hgb:(Value.slice (some ⟨g,0,none⟩) 1 1).ownBlock=some g:=rfl;rw [hgb] at hg5 Yq;have q5:CB 35 q [.string ⟨#[116,97,98,108,101]⟩,.string ⟨#[]⟩,.slice none 0 0,.slice (some ⟨g,0,none⟩) 1 1] w5:=(hg5.block q (by simp;have:=Ku.out.cq.lt;omega) (fun e=>Ku.out.hg.2 (jo4 e).symm)).trans ((jo6 w3 _ q Ku.out.cq.lt).trans Ku.out.cq);have S5:w5.cell? ⟨q,3,none⟩=some (.slice (some ⟨g,0,none⟩) 1 1):=q5.cell 3 _ rfl;have fz:=kS q5;have b35:jr0 W0.heap.size w3 w5:=((jnk _ w3).alloc Ku.out.aN.size _).grown hg5 (by simp;have:=Ku.out.aN.size;omega) (fun x hx=>by have:=jo4 hx;have:=Ku.out.hg.1;omega);have Nw:=hid (Ku.out.aN.trans b35);have jd3:=hid Yq;have HQ5:=hid q5;have hq3:q<w3.heap.size:=Ku.out.cq.lt;clear Yq hg5 hgb b35 XD q5;refine hK.out _ _ (fun _=>S5) (fun hH2=>?_);clear hK KQ hH;have hH:=hH2 (by decide);clear hH2;refine H9 (i:=6) rfl (by kernel_rfl) (fun KQ hK=>?_);go_simp;refine hK.out _ _ (fun _=>S5) (fun hH2=>?_);clear hK KQ hH;have hH:=hH2 (by decide);clear hH2;refine H9 (i:=7) rfl (by kernel_rfl) (fun KQ hK=>?_);go_simp;refine hK.out _ _ (fun h=>absurd rfl h) (fun _=>?_);clear hK KQ;refine nU (by kernel_rfl) ?_ _;obtain ⟨w6,mJ⟩:∃ w6,w6=w5.setCell ⟨q,3,none⟩ (.slice a5 (1+1) c5):=⟨_,rfl⟩;try simp only [Nat.reduceAdd] at mJ
        rw [<- mJ];have HQ:Hid (CB 35 q [.string ⟨#[116,97,98,108,101]⟩,.string ⟨#[]⟩,.slice none 0 0,.slice a5 2 c5] w6):=by rw [mJ];exact nO HQ5.out 3 _
        have BL:jr0 W0.heap.size W0 w6:=by rw [mJ];exact Nw.out.setCell Ry.out.hq _
        have HNR:Hid (gF (W0.heap.size<=·) w6 [] [aO jf [] [aO wX [] (aT IV i.data.toList Ei)],aO sP [] (rs.map (lV zT i))] (.slice none 0 0) (.slice a5 2 c5)):=⟨Rd.aD _ _ _,by
          rw [mJ];refine Rd.keep (fun b hb hlt=>⟨?_,Below.heap_setCell w5 ⟨q,3,none⟩ _ b ?_⟩) _ _ jd3.out
          · rcases hb with hb | hb | hb
            · exact hb.1
            · have:=jo4 hb;have:=Ry.out.hg.1;omega
            · have:=Ku.out.aN.size;omega
          · show b≠q
            rcases hb with hb | hb | hb
            · exact hb.2.1
            · have:=jo4 hb;have:=Ry.out.hg.2;omega
            · omega⟩
        clear mJ jd3 S3 S5 fz hH;obtain ⟨x0,x1,x2,x3,xf⟩:=oC (K1.out.below BL);obtain ⟨y0,y1,y2,y3,-⟩:=cb4 HQ.out;go_upto_region 10 with (fail)
        obtain ⟨w9,dU⟩:∃ w9,w9=dY w6 (S+1) (.string ⟨#[116,97,98,108,101]⟩) (.string ⟨#[]⟩) (.slice none 0 0) (.slice a5 2 c5):=⟨_,rfl⟩;have hf:=gK ⟨#[116,97,98,108,101]⟩ ⟨#[]⟩ [] ([aO jf [] [aO wX [] (aT IV i.data.toList Ei)],aO sP [] (rs.map (lV zT i))]) GU.out Z0.out B0.out K1.out BL HNR.out;rw [<- dU] at hf;have mK:=hid hf.1;have Il:=hid hf.2;clear hf;have hw8:=dU;simp only [dY] at hw8;clear dU;go_wp2;rw [<- hw8];have r0:=mK.out.cell 0 _ rfl;have r1:=mK.out.cell 1 _ rfl;have r2:=mK.out.cell 2 _ rfl;have r3:=mK.out.cell 3 _ rfl;exact bodyPost_ret (v:=.agg #[.string ⟨#[116,97,98,108,101]⟩,.string ⟨#[]⟩,.slice none 0 0,.slice a5 2 c5]) (by simp [results,Tryz.results138,go_sem,r0,r1,r2,r3]) rfl (by rw [HTE.out];exact Il.out)
open Go.RowKit
theorem Ka {ok:Nat->Prop} {w:jqz} {x y:Nd} {c0 c1 c2 c3 d0 d1 d2 d3:jr1} (hm:ok w.heap.size) (hx:Rd ok w x.d [c0,c1,c2,c3]) (hy:Rd ok w y.d [d0,d1,d2,d3]) : Rd ok (w.alloc (.cells #[c0,c1,c2,c3,d0,d1,d2,d3] 35)) (dh [x,y]) [.slice (some ⟨w.heap.size,0,none⟩) 2 2]:=by
  have hb:jr0 w.heap.size w (w.alloc (.cells #[c0,c1,c2,c3,d0,d1,d2,d3] 35)):=(jnk _ _).alloc (jnq _) _;have k:CB 35 w.heap.size [c0,c1,c2,c3,d0,d1,d2,d3] (w.alloc (.cells #[c0,c1,c2,c3,d0,d1,d2,d3] 35)):=CB.new _ _ w;have kp:∀ {d:D} {cs:List jr1},Rd ok w d cs->Rd ok (w.alloc (.cells #[c0,c1,c2,c3,d0,d1,d2,d3] 35)) d cs:=fun h=>Rd.keep (fun b hb' hlt=>⟨hb',hb.block b hlt⟩) _ _ h
  exact Rd.slB (l:=[x,y].map Nd.d) (rows:=[[c0,c1,c2,c3],[d0,d1,d2,d3]]) (by simp) (by unfold maxLen;decide) (aQ.cons (kp hx) (aQ.one (kp hy))) (by simp) hm k.lt (fun j u hu=>k.cell j u (by simpa using hu))
def XJ (w:jqz) (E:Nat) (x:Nd) (e:Ending) (w':jqz):Prop:=
  ∃ va vk,e=.returned (.tuple #[.agg #[.string x.nm,.string x.tx,va,vk],.int .i64 (E:Int)])/\gF (w.heap.size<=·) w' x.at_ x.ks va vk/\jr0 w.heap.size w w'
end Go.Proofs.YtkfnkeflalcphaaGreatDoor

