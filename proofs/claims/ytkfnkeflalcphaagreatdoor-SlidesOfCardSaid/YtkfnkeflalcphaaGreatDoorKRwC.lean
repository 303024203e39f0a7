/- tree.Each: all blocks, in document order, handed to a loop's body. What is read stands where a block that is no cells changes. -/
import Derived.RangeFuncNested
import Derived.RangeFuncBound
import Derived.Shelf.RegionOpen
import Derived.OwnWalkIn
import Derived.LoopNIn
import Derived.Sort.CutIn
import Derived.Test.YtkfnkeflalcphaaGreatDoorKInlines
set_option maxHeartbeats 4000000
set_option maxRecDepth 100000
open Go.Lib (hid)
namespace Go.Proofs.YtkfnkeflalcphaaGreatDoor
open List renaming setIfInBounds_toArray->jk2,set_cons_zero->jk3,set_cons_succ->jk4
open Go renaming World->jn8,Value->jnj
open Go.RowKit Go.Shelf
set_option linter.unusedVariables false
set_option linter.unusedSimpArgs false
attribute [local go_sem] Oper.semAt_some
theorem OP {F:Fence} (hd:F.depth=none) {m m':Nat} {P:Program} {l:Nat} {f:FuncId} {tmps:Array jnj} {assign body:Code} {w:jn8} {R:Ending->jn8->Prop} (h:RoundIn F m P l f tmps assign body w R):RoundIn F m' P l f tmps assign body w R:=⟨h.1,fun c cs _=>h.2 c cs (fun d h=>by rw [hd] at h;cases h)⟩
theorem NP {F:Fence} (hd:F.depth=none) {m:Nat} (m':Nat) {P:Program} {l:Nat} {args:Array jnj} {W:jn8} {R:Ending->jn8->Prop} (h:YieldAt F m P l args W R):YieldAt F m' P l args W R:=by obtain ⟨fn,tmps,assign,body,hy,hR⟩:=h;exact ⟨fn,tmps,assign,body,hy,OP hd hR⟩
theorem Le {P:Program} {ops:Array Oper} {o:Oper} {a:Act} {w:jn8} {K':Act->jn8->Prop} {X:Prop} (hw:Region.wanted o (yielded ops a.tmps)=false) (h:K' (a.put o.dst undef) w) : (if Region.wanted o (yielded ops a.tmps)=true then X else (∀ f,o.about P w a.eval=some f->Fence.wide.fn f)/\K' (a.put o.dst undef) w):=by rw [hw];exact ⟨fun _ _=>trivial,h⟩
mutual
def ah.each:ah->List ah
  | .mk k lv i t d ti a li ks=>.mk k lv i t d ti a li ks::ah.aW ks
def ah.aW:List ah->List ah
  | []=>[]
  | x::l=>x.each++ah.aW l
end
theorem ah.zX (l m:List ah):ah.aW (l++m)=ah.aW l++ah.aW m:=by
  induction l with
  | nil=>rw [ah.aW];rfl
  | cons x l ih=>rw [List.cons_append,ah.aW,ah.aW,ih,List.append_assoc]
theorem ah.xB (l:List ah) (k:Nat) (x:ah) (h:l[k]?=some x):ah.aW (l.take (k+1))=ah.aW (l.take k)++x.each:=by rw [List.take_add_one,h,ah.zX];simp [ah.aW]
theorem ah.nW (l:List ah) (k:Nat) (x:ah) (h:l[k]?=some x):ah.aW l=ah.aW (l.take k)++(x.each++ah.aW (l.drop (k+1))):=by rw [<- List.append_assoc,<- ah.xB l k x h,<- ah.zX,List.take_append_drop]
structure BV where
  kd:Int
  lv:Int
  i:ByteArray
  t:ByteArray
  d:ByteArray
  ti:ByteArray
  at_:At
  li:List aj
  ks:List ah
  vc:jnj
  vp:jnj
  vl:jnj
  vk:jnj
def BV.blk (x:BV):ah:=.mk x.kd x.lv x.i x.t x.d x.ti x.at_ x.li x.ks
def BV.enc (x:BV):jnj:=.agg #[.int .i64 x.kd,.int .i64 x.lv,.string x.i,.string x.t,.string x.d,.string x.ti,.string x.at_.id,x.vc,x.vp,x.vl,x.vk]
abbrev BW (B0:Nat) (w0:jn8) (P:ah->Prop):Type:={ x:BV // kE (·<B0) w0 x.at_ x.li x.ks x.vc x.vp x.vl x.vk/\P x.blk }
def uj {B0:Nat} {w0:jn8} {P:ah->Prop} (l:List (BW B0 w0 P)):List ah:=l.map fun x=>x.1.blk
theorem ji {B0:Nat} {w0:jn8} {P:ah->Prop} (l m:List (BW B0 w0 P)):uj (l++m)=uj l++uj m:=by unfold uj;rw [List.map_append]
theorem vV {B0:Nat} {w0:jn8} {P:ah->Prop} (l:List (BW B0 w0 P)):(uj l).length=l.length:=by unfold uj;rw [List.length_map]
structure Nf (B0:Nat) (Kp:jn8->jn8->Prop):Prop where
  below:∀ {W W':jn8},Kp W W'->Below B0 W W'
  X3:∀ {W W':jn8} {b:Nat} {v:jnj},Kp W W'->aG b v 98 W->aG b v 98 W'
  VQ:∀ {W W':jn8} {b:Nat} {v:jnj},Kp W W'->aG b v 33 W->aG b v 33 W'
theorem cu.same {w w':jn8} {b o:Nat} {k lv:Int} {i t d ti id:ByteArray} {vc vp vl vk:jnj} (h:cu w b o k lv i t d ti id vc vp vl vk) (hb:w'.heap[b]?=w.heap[b]?):cu w' b o k lv i t d ti id vc vp vl vk:=by obtain ⟨h0,h1,h2,h3,h4,h5,h6,h7,h8,h9,h10⟩:=h;constructor<;>(rw [gH hb];assumption)
def zK (uw bw:Nat):jnj:=.func (.func 88) #[] #[.pointer (some ⟨uw,0,none⟩),.pointer (some ⟨bw,0,none⟩)]
structure EB (l uw bw:Nat) (W:jn8):Prop where
  X3:aG uw (.func (.yield l) #[] #[]) 98 W
  VQ:aG bw (zK uw bw) 33 W
theorem EB.kept {l uw bw B0:Nat} {W W':jn8} {Kp:jn8->jn8->Prop} (h:EB l uw bw W) (hK:Nf B0 Kp) (hk:Kp W W'):EB l uw bw W':=⟨hK.X3 hk h.X3,hK.VQ hk h.VQ⟩
def OQ {B0:Nat} {w0:jn8} {P:ah->Prop} (l uw bw:Nat) (J:List (BW B0 w0 P)->jn8->Prop) (pre:List (BW B0 w0 P)) (bs:List ah) (W:jn8):Prop:=
  ∃ q:List (BW B0 w0 P),uj q=ah.aW bs/\J (pre++q) W/\Below B0 w0 W/\EB l uw bw W
def Ul {B0:Nat} {w0:jn8} {P:ah->Prop} (l uw bw:Nat) (J:List (BW B0 w0 P)->jn8->Prop) (pre:List (BW B0 w0 P)) (bs:List ah) (vi:jnj) (W:jn8):Prop:=
  ∃ k:Nat,k<=bs.length/\vi=.int .i64 k/\OQ l uw bw J pre (bs.take k) W
theorem KG (l B0 uw bw N:Nat) (P:ah->Prop) (w0:jn8) (Kp:jn8->jn8->Prop) (hK:Nf B0 Kp) (J Jx:List (BW B0 w0 P)->jn8->Prop) (hJd:∀ pre W,J pre W->J pre W.drew) (hY:∀ (m:Nat) (pre:List (BW B0 w0 P)) (x:BW B0 w0 P) (W:jn8),J pre W->pre.length<N->YieldAt Fence.wide m Tryz.prog l #[x.1.enc] W fun e W'=> (e=.returned (.bool true)/\J (pre++[x]) W'/\Kp W W')\/(e=.returned (.bool false)/\Jx (pre++[x]) W')) (n:Nat) : ∀ (m:Nat) (bs:List ah) (v:jnj) (pre:List (BW B0 w0 P)) (W:jn8),ah.aU bs<=n->(∀ b∈ah.aW bs,P b)->Rd (·<B0) w0 (iU bs) [v]->Below B0 w0 W->EB l uw bw W->J pre W->pre.length+(ah.aW bs).length<=N -> CallsIn Fence.wide m Tryz.prog 88 #[v,.pointer (some ⟨uw,0,none⟩),.pointer (some ⟨bw,0,none⟩)] W fun e W'=> (e=.returned (.bool true)/\OQ l uw bw J pre bs W')\/(e=.returned (.bool false)/\∃ q,uj q <+: ah.aW bs/\Jx (pre++q) W'):=by
  induction n using Nat.strongRecOn with
  | _ n ih=>
    intro m bs v pre W hn hPb hrd hbel VU hJ hN;obtain ⟨a,cap,hv,hs⟩:=Rd.ay hrd;obtain rfl:v=.slice a bs.length cap:=by simpa using hv
    have hcap:bs.length<=cap:=by simpa using hs.le
    have hll:=ah.dn bs;have hmx:=hs.max;have hdd:∀ k:Nat,(Fence.wide.depth.isSome=true->1<=k):=fun k h=>by cases h
    have HS:=hid hs;have IH:=hid ih;have R0:Hid (Ul l uw bw J pre bs (.int .i64 0) W):=⟨0,Nat.zero_le _,rfl,[],by rw [List.take_zero,ah.aW];rfl,by rw [List.append_nil];exact hJ,hbel,VU⟩;have HY:=hid hY;have TF:=hid hPb;have HJD:=hid hJd;have Yc:=hid hK;clear hs hv hrd ih hJ hbel VU hY hJd hK hPb;unfold maxLen at hmx;refine callsIn_of_wp Tryz.func88 rfl trivial ?_ rfl;simp only [Tryz.ntmps88,List.size_toArray,List.length_cons,List.length_nil,Nat.reduceAdd,Nat.reduceSub,Array.replicate_succ,Array.replicate_zero,List.push_toArray,List.append_toArray,List.nil_append,List.cons_append]
    gi_wp2
    gi_loopw [8] (fun vi wr=>Ul l uw bw J pre bs vi wr) (fun i _=>bs.length-(intOf i).toNat)
    case atStart=>exact R0.out
    case round=>
      obtain ⟨k,hk,rfl,q,hq,hJq,hbq,hEq⟩:=hrel;clear R0;by_cases hlt:k<bs.length
      · obtain ⟨x,hx⟩:∃ x,bs[k]?=some x:=⟨_,List.getElem?_eq_getElem hlt⟩
        obtain ⟨kd,lv,i,t,d,ti,at_,li,ks⟩:=x;obtain ⟨g,off,vc,vp,vl,vk,rfl,hok,hbl,hc,hR⟩:=F6 HS.out hx;obtain ⟨ac,nc,cc,rfl⟩:=Rd.au hR.at_.cls
        obtain ⟨ap,np,cp,rfl⟩:=Rd.au hR.at_.aI
        obtain ⟨al,nl,cl,rfl⟩:=Rd.au hR.line;obtain ⟨ak,nk,ck,rfl⟩:=Rd.au hR.kids;have hsz:=ah.bq bs k _ hx;rw [ah.sz] at hsz;have hcut:=congrArg List.length (ah.nW bs k _ hx);rw [ah.each] at hcut;simp only [List.length_append,List.length_cons] at hcut;have YU:=congrArg List.length hq;rw [vV] at YU;obtain ⟨c0,c1,c2,c3,c4,c5,c6,c7,c8,c9,c10⟩:=hc.same (w':=wr.drew) (hbq.block g hok);have y0:wr.drew.cell? ⟨uw,0,none⟩=some (.func (.yield l) #[] #[]):=hEq.X3.cell;obtain ⟨X,LU,hXb⟩:∃ X:BW B0 w0 P,X.1.enc=.agg #[.int .i64 kd,.int .i64 lv,.string i,.string t,.string d,.string ti,.string at_.id,.slice ac nc cc,.slice ap np cp,.slice al nl cl,.slice ak nk ck]/\X.1.blk=.mk kd lv i t d ti at_ li ks:=⟨⟨⟨kd,lv,i,t,d,ti,at_,li,ks,_,_,_,_⟩,hR,TF.out _ (by rw [ah.nW bs k _ hx,ah.each];simp [BV.blk])⟩,rfl,rfl⟩
        obtain ⟨fn,tmps,assign,body,hy,hRd⟩:=HY.out (m-1) (pre++q) X wr.drew (HJD.out _ _ hJq) (by simp;omega);rw [LU] at hy;have hw3:∀ W3,Kp wr.drew W3->W3.cell? ⟨bw,0,none⟩=some (zK uw bw)/\W3.cell? ⟨g,off+k*11+10,none⟩=some (.slice ak nk ck):=by intro W3 h3;exact ⟨(Yc.out.VQ h3 hEq.VQ).cell,(hc.same (w':=W3) (((Yc.out.below h3).block g hok).trans (hbq.block g hok))).c10⟩
        unfold zK at hw3;have HW3:=hid hw3;have jb0:Below B0 w0 wr.drew:=⟨hbq.os,hbq.tape,hbq.output,hbq.size,hbq.block⟩;have jb1:EB l uw bw wr.drew:=⟨hEq.X3.drew,hEq.VQ.drew⟩;have HPF:Hid (∀ q2:List (BW B0 w0 P),uj q2 <+: ah.aW ks->uj (q++[X]++q2) <+: ah.aW bs):=by intro q2 h2;rw [ah.nW bs k _ hx,ji,ji,hq,ah.each];obtain ⟨r,hr⟩:=h2;refine ⟨r++ah.aW (bs.drop (k+1)),?_⟩;rw [<- hr];simp [uj,hXb]
        have HCK:Hid (∀ W3,J (pre++q++[X]) W3->Kp wr.drew W3->CallsIn Fence.wide (m-1) Tryz.prog 88 #[.slice ak nk ck,.pointer (some ⟨uw,0,none⟩),.pointer (some ⟨bw,0,none⟩)] W3 fun e W'=>
            ∃ b,e=.returned (.bool b)/\((b=true/\OQ l uw bw J pre (bs.take (k+1)) W')\/(b=false/\∃ q2,uj q2 <+: ah.aW bs/\Jx (pre++q2) W'))):=by
          intro W3 h3 hk3;refine (IH.out (ah.aU ks) (by omega) (m-1) ks _ (pre++q++[X]) W3 (Nat.le_refl _) (fun b hb=>TF.out b (by rw [ah.nW bs k _ hx,ah.each];simp [hb])) hR.kids (jb0.trans (Yc.out.below hk3)) (jb1.kept Yc.out hk3) h3 (by simp;omega)).mono ?_;rintro e W' (⟨rfl,q2,h5,h6,h7,h8⟩ | ⟨rfl,q2,h5,h6⟩)
          · refine ⟨true,rfl,.inl ⟨rfl,q++[X]++q2,?_,by simpa using h6,h7,h8⟩⟩
            rw [ah.xB bs k _ hx,ji,ji,hq,h5,ah.each];simp [uj,hXb]
          · exact ⟨false,rfl,.inr ⟨rfl,_,HPF.out q2 h5,by simpa using h6⟩⟩
        have HRd:=hid hRd;have HR:=hid hR;have HX:=hid hx;have HEq:=hid hEq;have WW:=hid LU;have HXB:=hid hXb;have HQ:=hid hq;have HBQ:=hid hbq;clear hRd hc hR hx hEq hw3 LU hXb hq hbq hJq jb0 jb1
        gi_upto_region 4 with (fail)
        gi_region_with (first
          | ((try refine ⟨hdd _,?_⟩);refine HRd.out.mono ?_;clear HRd;rintro e W3 (⟨rfl,hJ3,hk3⟩ | ⟨rfl,hx3⟩)
             rotate_left;dsimp only
             rename_i KK hKK
             refine hKK _ _ ?_
             (try simp only [Act.put,jk2,jk3,jk4])
             refine wpAnyIn_take (i := 6) (oi := { dst := some 17, op := Op.unOp UnOp.not 4 (Operand.tmp 16), type := 4, pos := "tree.go:154", after := #[{ on := 5, ground := Ground.data }], guard := none }) (v := ?v6) rfl rfl (by kernel_rfl) (by kernel_rfl) (by kernel_rfl) (fun _ _ _ h => h) ⟨Or.inl ⟨by rfl, ?y6⟩, fun _ => rfl⟩ ?_;case y6=>(intro w;go_simp;try (with_reducible rfl))
             simp only [Act.put,jk2,jk3,jk4];refine wpAnyIn_take (i := 7) (oi := { dst := some 18, op := Op.move (Operand.tmp 17), type := 4, pos := "tree.go:154", after := #[{ on := 6, ground := Ground.data }, { on := 5, ground := Ground.chain }], guard := none }) (v := ?v7) rfl rfl (by kernel_rfl) (by kernel_rfl) (by kernel_rfl) (fun _ _ _ h => h) ⟨Or.inl ⟨by rfl, ?y7⟩, fun _ => rfl⟩ ?_;case y7=>(intro w;go_simp;try (with_reducible rfl))
             simp only [Act.put,jk2,jk3,jk4];refine wpAnyIn_take (i := 8) (oi := { dst := some 19, op := Op.load 33 (Operand.tmp 2), type := 33, pos := "tree.go:154", after := #[{ on := 7, ground := Ground.guard }], guard := some (7, false) }) (v := undef) rfl rfl (by kernel_rfl) (by kernel_rfl) (by kernel_rfl) (fun _ _ _ h => h) ⟨Or.inr ⟨by kernel_rfl, rfl⟩, fun _ => rfl⟩ ?_;simp only [Act.put,jk2,jk3,jk4];refine wpAnyIn_take (i := 9) (oi := { dst := some 20, op := Op.move (Operand.tmp 0), type := 22, pos := "tree.go:154", after := #[{ on := 7, ground := Ground.guard }], guard := some (7, false) }) (v := undef) rfl rfl (by kernel_rfl) (by kernel_rfl) (by kernel_rfl) (fun _ _ _ h => h) ⟨Or.inr ⟨by kernel_rfl, rfl⟩, fun _ => rfl⟩ ?_;simp only [Act.put,jk2,jk3,jk4];refine wpAnyIn_take (i := 10) (oi := { dst := some 21, op := Op.move (Operand.tmp 5), type := 3, pos := "tree.go:154", after := #[{ on := 7, ground := Ground.guard }], guard := some (7, false) }) (v := undef) rfl rfl (by kernel_rfl) (by kernel_rfl) (by kernel_rfl) (fun _ _ _ h => h) ⟨Or.inr ⟨by kernel_rfl, rfl⟩, fun _ => rfl⟩ ?_;simp only [Act.put,jk2,jk3,jk4];refine wpAnyIn_take (i := 11) (oi := { dst := some 22, op := Op.indexAddr 22 (Operand.tmp 20) (Operand.tmp 21), type := 0, pos := "tree.go:154", after := #[{ on := 9, ground := Ground.data }, { on := 10, ground := Ground.data }, { on := 7, ground := Ground.guard }], guard := some (7, false) }) (v := undef) rfl rfl (by kernel_rfl) (by kernel_rfl) (by kernel_rfl) (fun _ _ _ h => h) ⟨Or.inr ⟨by kernel_rfl, rfl⟩, fun _ => rfl⟩ ?_;simp only [Act.put,jk2,jk3,jk4];refine wpAnyIn_take (i := 12) (oi := { dst := some 23, op := Op.fieldAddr 48 (Operand.tmp 22) 8, type := 0, pos := "tree.go:154", after := #[{ on := 11, ground := Ground.data }, { on := 7, ground := Ground.guard }], guard := some (7, false) }) (v := undef) rfl rfl (by kernel_rfl) (by kernel_rfl) (by kernel_rfl) (fun _ _ _ h => h) ⟨Or.inr ⟨by kernel_rfl, rfl⟩, fun _ => rfl⟩ ?_;simp only [Act.put,jk2,jk3,jk4];refine wpAnyIn_take (i := 13) (oi := { dst := some 24, op := Op.load 22 (Operand.tmp 23), type := 22, pos := "tree.go:154", after := #[{ on := 12, ground := Ground.data }, { on := 7, ground := Ground.guard }], guard := some (7, false) }) (v := undef) rfl rfl (by kernel_rfl) (by kernel_rfl) (by kernel_rfl) (fun _ _ _ h => h) ⟨Or.inr ⟨by kernel_rfl, rfl⟩, fun _ => rfl⟩ ?_;simp only [Act.put,jk2,jk3,jk4];refine wpAnyIn_ready (rs:=[14]) (by kernel_rfl) (by simp) ?_;refine AllReadyIn.cons (o := { dst := some 25, op := Op.call { callee := Callee.value (Operand.tmp 19), args := #[Operand.tmp 24], argTypes := #[22] }, type := 4, pos := "tree.go:154", after := #[{ on := 8, ground := Ground.data }, { on := 13, ground := Ground.data }, { on := 7, ground := Ground.chain }, { on := 7, ground := Ground.guard }], guard := some (7, false) }) rfl (fun KL hKL => ?_) AllReadyIn.nil;refine Le (by kernel_rfl) (hKL _ _ ?_);clear hKL KL;simp only [Act.put,jk2,jk3,jk4];refine wpAnyIn_take (i := 15) (oi := { dst := some 26, op := Op.unOp UnOp.not 4 (Operand.tmp 25), type := 4, pos := "tree.go:154", after := #[{ on := 14, ground := Ground.data }, { on := 7, ground := Ground.guard }], guard := some (7, false) }) (v := undef) rfl rfl (by kernel_rfl) (by kernel_rfl) (by kernel_rfl) (fun _ _ _ h => h) ⟨Or.inr ⟨by kernel_rfl, rfl⟩, fun _ => rfl⟩ ?_;simp only [Act.put,jk2,jk3,jk4];refine wpAnyIn_take (i := 16) (oi := { dst := some 27, op := Op.pick (Operand.tmp 18) (Operand.const (Value.bool true)) (Operand.tmp 26), type := 4, pos := "tree.go:154", after := #[{ on := 7, ground := Ground.data }, { on := 15, ground := Ground.data }], guard := none }) (v := ?v16) rfl rfl (by kernel_rfl) (by kernel_rfl) (by kernel_rfl) (fun _ _ _ h => h) ⟨Or.inl ⟨by rfl, ?y16⟩, fun _ => rfl⟩ ?_;case y16=>(intro w;go_simp;try (with_reducible rfl))
             simp only [Act.put,jk2,jk3,jk4];refine wpAnyIn_done (by kernel_rfl) ?_ _;clear hKK KK
             gi_wp2
             go_ret;exact .inr ⟨rfl,q++[X],by simpa using HPF.out [] (by simp [uj]),by simpa using hx3⟩;obtain ⟨cw,ckk⟩:=HW3.out _ hk3)
          | (refine ⟨trivial,hdd _,?_⟩;refine (HCK.out _ hJ3 hk3).mono ?_;rintro e W4 ⟨b,rfl,h4⟩))
        all_goals
          rcases h4 with ⟨rfl,h4⟩ | ⟨rfl,h4⟩
          · gi_wp2
            go_roundw;case rel=>exact ⟨k+1,by omega,by go_num,h4⟩
            case measure=>simp [intOf];omega
          · gi_wp2
            go_ret;exact .inr ⟨rfl,h4⟩
      · have hkl:k=bs.length:=by omega
        subst hkl;rw [List.take_length] at hq;have HQ:=hid hq;clear hq
        gi_wp2
        go_ret;exact .inl ⟨rfl,q,HQ.out,hJq,hbq,hEq⟩
open Go.RowKit
theorem Jv {w:jn8} {r:Nat} {o:Obj} (ho:w.heap[r]?=some o) (hc:o.isCells=false) (j:Nat) (u:jnj):w.cell? ⟨r,j,none⟩≠some u:=by intro h;unfold World.cell? at h;rw [ho] at h;cases o<;>simp_all [Obj.isCells]
mutual
theorem Rd.xC {ok:Nat->Prop} {w w':jn8} (hz:w.heap.size<=w'.heap.size) (hs:∀ b,ok b->b<w.heap.size->(∃ j u,w.cell? ⟨b,j,none⟩=some u)->w'.heap[b]?=w.heap[b]?):∀ (d:D) (cs:List jnj),Rd ok w d cs->Rd ok w' d cs
  | .int _ _,_,h=>by unfold Rd at h ⊢;exact h
  | .bool _,_,h=>by unfold Rd at h ⊢;exact h
  | .str _,_,h=>by unfold Rd at h ⊢;exact h
  | .st fs,_,h=>by
    unfold Rd at h ⊢;obtain ⟨rows,hr,hc⟩:=h;exact ⟨rows,aH.xC hz hs fs rows hr,hc⟩
  | .sl k l,_,h=>by
    unfold Rd at h ⊢;obtain ⟨a,cap,rows,h1,h2,h3,h4,h5,h6⟩:=h;refine ⟨a,cap,rows,h1,h2,h3,aH.xC hz hs l rows h4,h5,?_⟩;rcases h6 with h6 | ⟨b,off,h7,h8,hb,h9⟩
    · exact .inl h6
    · exact .inr ⟨b,off,h7,h8,Nat.lt_of_lt_of_le hb hz,fun j u hu=>by rw [gH (hs b h8 hb ⟨_,_,h9 j u hu⟩)];exact h9 j u hu⟩
theorem aH.xC {ok:Nat->Prop} {w w':jn8} (hz:w.heap.size<=w'.heap.size) (hs:∀ b,ok b->b<w.heap.size->(∃ j u,w.cell? ⟨b,j,none⟩=some u)->w'.heap[b]?=w.heap[b]?):∀ (l:List D) (rows:List (List jnj)),aH ok w l rows->aH ok w' l rows
  | [],_,h=>by unfold aH at h ⊢;exact h
  | d::ds,_,h=>by
    unfold aH at h ⊢;obtain ⟨r,rs,h1,h2,h3⟩:=h;exact ⟨r,rs,h1,Rd.xC hz hs d r h2,aH.xC hz hs ds rs h3⟩
end
theorem Rd.zG {ok:Nat->Prop} {w w':jn8} {row:Option Nat} {d:D} {cs:List jnj} (h:Rd ok w d cs) (hg:w.grownBy w' row) (hr:∀ r,row=some r->∃ o:Obj,w.heap[r]?=some o/\o.isCells=false):Rd ok w' d cs:=
  Rd.xC hg.size (fun b _ hb ⟨j,u,hc⟩=>hg.block b hb (fun e=>by obtain ⟨o,k1,k2⟩:=hr b e.symm;exact Jv k1 k2 j u hc)) _ _ h
theorem aB.zG {T:TypeId} {k U:Nat} {ok:Nat->Prop} {w0 w w':jn8} {ds:List D} {rows:List (List jnj)} {v:jnj} {row:Option Nat} (h:aB T k ok U w0 ds rows v w) (hg:w.grownBy w' row) (hr:∀ r,row=some r->w0.heap.size<=r/\∃ o:Obj,w.heap[r]?=some o/\o.isCells=false):aB T k ok U w0 ds rows v w':=by
  refine ⟨?_,aH.xC hg.size (fun b _ hb ⟨j,u,hc⟩=>hg.block b hb (fun e=>by obtain ⟨-,o,k1,k2⟩:=hr b e.symm;exact Jv k1 k2 j u hc)) _ _ h.red,h.len,h.aO.grown hg h.aO.size (fun j hj=>(hr j hj).1),h.oU,h.lX,Nat.le_trans h.tK hg.size⟩;obtain ⟨h1,h2⟩:=h.own;refine ⟨h1,?_⟩;rcases h2 with h2 | ⟨g,cap,cur,rfl,r2,r3,r4⟩
  · exact .inl h2
  · exact .inr ⟨g,cap,cur,rfl,r2,(hg.block g (Array.getElem?_eq_some_iff.1 r3).1 (fun e=>by
      obtain ⟨-,o,k1,k2⟩:=hr g e.symm;rw [r3] at k1;cases k1;cases k2)).trans r3,r4⟩
theorem Rd.slB {ok:Nat->Prop} {w:jn8} {k:Nat} {l:List D} {rows:List (List jnj)} {b cap:Nat} (hl:l.length<=cap) (hm:cap<=maxLen) (h:aH ok w l rows) (hk:∀ r∈rows,r.length=k) (hok:ok b) (hb:b<w.heap.size) (hc:∀ j u,rows.flatten[j]?=some u->w.cell? ⟨b,j,none⟩=some u):Rd ok w (.sl k l) [.slice (some ⟨b,0,none⟩) l.length cap]:=by unfold Rd;exact ⟨_,cap,rows,rfl,hl,hm,h,hk,.inr ⟨b,0,rfl,hok,hb,fun j u hu=>by rw [Nat.zero_add];exact hc j u hu⟩⟩
end Go.Proofs.YtkfnkeflalcphaaGreatDoor

