/- publisherref04.heavy: how many parts blocks have. publisherref04.Small: what it says of a document where it answers true. -/
import Derived.Test.YtkfnkeflalcphaaGreatDoorKSame
import Derived.Deep.RegionHeld3
set_option maxHeartbeats 8000000
set_option maxRecDepth 100000
open Go.Lib (hid)
namespace Go.Proofs.YtkfnkeflalcphaaGreatDoor
open Go.RowKit
set_option linter.unusedVariables false
set_option linter.unusedSimpArgs false
mutual
def ah.small:ah->Prop
 | .mk k lv i t d ti a li ks=>i.size<=300/\t.size<=300/\d.size<=300/\ti.size<=300/\a.short/\aj.aB li/\aj.aY li<=120/\ah.aB ks
def ah.aB:List ah->Prop
 | []=>True
 | x::l=>x.small/\ah.aB l
end
mutual
def ah.all:ah->Nat
 | .mk _ _ _ _ _ _ _ li ks=>1+aj.aY li+ah.dA ks
def ah.dA:List ah->Nat
 | []=>0
 | x::l=>x.all+ah.dA l
end
theorem ah.jO:∀ (l m:List ah),ah.aB l->ah.aB m->ah.aB (l++m)
 | [],m,_,h=>h
 | x::l,m,h,h2=>by unfold ah.aB at h;rw [List.cons_append];unfold ah.aB;exact ⟨h.1,ah.jO l m h.2 h2⟩
theorem ah.oK {l:List ah} {k:Nat} {x:ah} (hx:l[k]?=some x) (h:ah.aB (l.take k)) (h2:x.small):ah.aB (l.take (k+1)):=by rw [List.take_add_one,hx];exact ah.jO _ _ h (by unfold Option.toList ah.aB;exact ⟨h2,by unfold ah.aB;trivial⟩)
theorem ah.Iw (l m:List ah):ah.dA (l++m)=ah.dA l+ah.dA m:=by
 induction l with
 | nil=>rw [ah.dA];simp
 | cons x l ih=>rw [List.cons_append,ah.dA,ah.dA,ih];omega
theorem ah.uT {l:List ah} {k:Nat} {x:ah} (hx:l[k]?=some x):ah.dA (l.take (k+1))=ah.dA (l.take k)+x.all:=by rw [List.take_add_one,hx,ah.Iw];simp [ah.dA]
theorem ah.uo:∀ {l:List ah} {k:Nat} {x:ah},ah.wT l->l[k]?=some x->x.wf
 | [],_,_,_,h=>by simp at h
 | y::l,0,x,hw,h=>by unfold ah.wT at hw;simp at h;subst h;exact hw.1
 | y::l,k+1,x,hw,h=>by unfold ah.wT at hw;exact ah.uo hw.2 (by simpa using h)
theorem jcx{P:Prop}(h:P:=by
 obtain ⟨c0,c1,c2,c3,c4,c5,c6,c7,c8,c9,c10⟩:=h;exact ⟨(jq hb _).trans c0,(jq hb _).trans c1,(jq hb _).trans c2,(jq hb _).trans c3,(jq hb _).trans c4,(jq hb _).trans c5,(jq hb _).trans c6,(jq hb _).trans c7,(jq hb _).trans c8,(jq hb _).trans c9,(jq hb _).trans c10⟩):P:=h
theorem dh.at2 {w w':World} {b o:Nat} {k lv:Int} {i t d ti id:ByteArray} {vc vp vl vk:Value} (h:dh w b o k lv i t d ti id vc vp vl vk) (hb:w'.heap[b]?=w.heap[b]?):dh w' b o k lv i t d ti id vc vp vl vk:=by exact jcx
theorem ji {x:Int} (h1:-9223372036854775808<=x) (h2:x<=9223372036854775807):IntKind.i64.wrap x=x:=by rw [IntKind.wrap_i64];omega
def hvB (dp:Nat):Nat:=(22-dp)*(23*140737488355328)
def VL (w:World) (l:List ah) (dp:Nat) (e:Ending) (w':World):Prop:=
 ∃ m:Nat,e=.returned (.int .i64 m)/\m<=hvB dp/\(m<=120->ah.aB l/\ah.dA l<=m)/\Below w.heap.size w w'
def jj7 (w:World) (l:List ah) (dp:Nat) (vn vi:Value) (wr:World):Prop:=
 ∃ k n:Nat,k<=l.length/\vi=.int .i64 k/\vn=.int .i64 n/\n<=hvB dp/\(n<=120->ah.aB (l.take k)/\ah.dA (l.take k)+(l.length-k)<=n)/\Below w.heap.size w wr
theorem VN{P:Prop}(h:P:=by
 refine ⟨k+1,m+(wk+hv),by omega,by go_num,by go_num,by unfold hvB;omega,(fun h=>?_),HB7.out⟩;obtain ⟨i1,i2⟩:=Ea.out (by omega);obtain ⟨j1,j2⟩:=HW2.out (by omega);obtain ⟨l1,l2⟩:=HH2.out (by omega);have hsn:=ah.uT HX.out;rw [ah.all] at hsn;refine ⟨ah.oK HX.out i1 (by unfold ah.small;exact ⟨by omega,by omega,by omega,by omega,HSH.out trivial,j1,by omega,l1⟩),by omega⟩):P:=h
theorem jj8{P:Prop}(h:P:=by
 rintro e w'' ⟨m,rfl,h1,h2,h3⟩;have hb2:=q01 hb h3;have hc:=Vu.out.below hb2;exact ⟨m,rfl,h1,h2,hc.cell 9 _ rfl,hc.cell 10 _ rfl,hb2⟩):P:=h
theorem jj9{P:Prop}(h:P:=by
 clear HS IH V9;go_enter Tryz.func31,Tryz.ntmps31;go_wp2;go_ret;exact ⟨1000,rfl,by unfold hvB;omega,(fun h=>by omega),Below.refl _ _⟩):P:=h
theorem P8 (n:Nat):∀ (l:List ah) (dp:Nat) (v:Value) (w:World),ah.aY l<=n->dp<=21->Rd (·<w.heap.size) w (nN l) [v]->ah.wT l -> Calls Tryz.prog 31 #[v,.int .i64 dp] w (VL w l dp):=by
 induction n using Nat.strongRecOn with
 | _ n ih=>
  intro l dp v w hn hdp hrd hwf;obtain ⟨a,cap,hv,hs⟩:=Rd.ay hrd;obtain rfl:v=.slice a l.length cap:=by simpa using hv
  refine vP ?_;intro hcap hmx HS;have IH:=hid ih;have V9:=hid hwf;clear hs hv hrd ih hwf;by_cases hd:20<dp
  ·have e1:decide ((20:Int)<(dp:Int))=true:=by simp;omega
   exact jj9
  have e1:decide ((20:Int)<(dp:Int))=false:=by simp;omega
  by_cases h2:200<l.length
  ·have e2:decide ((200:Int)<(l.length:Int))=true:=by simp;omega
   exact jj9
  have e2:decide ((200:Int)<(l.length:Int))=false:=by simp;omega
  have R0:Hid (jj7 w l dp (.int .i64 l.length) (.int .i64 0) w):=⟨0,l.length,Nat.zero_le _,rfl,rfl,by unfold hvB;omega,(fun _=>⟨by rw [List.take_zero];unfold ah.aB;trivial,by rw [List.take_zero,ah.dA];omega⟩),Below.refl _ _⟩;go_enter Tryz.func31,Tryz.ntmps31;go_wp2
  go_loopw [5,6] (fun vn vi wr=>jj7 w l dp vn vi wr) (fun _ i _=>l.length-(intOf i).toNat)
  case atStart=>exact R0.out
  case round=>
   clear R0;obtain ⟨k,m,hk,rfl,rfl,hm,hall,hbel⟩:=hrel;have Ea:=hid hall;have iM:=hid hbel;clear hall hbel;unfold hvB at hm;by_cases hlt:k<l.length
   ·by_cases hm1:m<1000
    ·have e3:decide ((m:Int)<(1000:Int))=true:=by simp;omega
     obtain ⟨x,hx⟩:∃ x,l[k]?=some x:=⟨_,List.getElem?_eq_getElem hlt⟩;obtain ⟨kd,lv,inf,t,d,ti,at_,li,ks⟩:=x;obtain ⟨g,off,vc,vp,vl,vk,rfl,hok,hbl,hc,hR⟩:=Gr HS.out hx;have hx2:=ah.uo V9.out hx;unfold ah.wf xE at hx2;obtain ⟨x0,x1,x2,x3,x4,x5,x6,x7,x8,x9,x10⟩:=hx2;rw [kK] at x2 x3 x4 x5;unfold BU at x2 x3 x4 x5;have hsz:=ah.bE l k _ hx;rw [ah.sz] at hsz;obtain ⟨ac,nc,cc,rfl⟩:=Rd.zK hR.at_.cls
     obtain ⟨ap,np,cp,rfl⟩:=Rd.zK hR.at_.aD
     obtain ⟨al,nl,cl,rfl⟩:=Rd.zK hR.line;obtain ⟨ak,nk,ck,rfl⟩:=Rd.zK hR.kids;obtain ⟨c0,c1,c2,c3,c4,c5,c6,c7,c8,c9,c10⟩:=hc.at2 (w':=wr) (iM.out.block g hok);have HR:=hid hR;have HX:=hid hx;have X6:=hid x6;have X7:=hid x7;have X9:=hid x9;clear hc hR hx x0 x1 x6 x7 x8 x9 x10;go_upto_region 8 with (fail)
     obtain ⟨wa,YP⟩:∃ wa,wa=wr.alloc (.cells #[.int .i64 kd,.int .i64 lv,.string inf,.string t,.string d,.string ti,.string at_.id,.slice ac nc cc,.slice ap np cp,.slice al nl cl,.slice ak nk ck] 48):=⟨_,rfl⟩;have hcb:CB 48 wr.heap.size [.int .i64 kd,.int .i64 lv,.string inf,.string t,.string d,.string ti,.string at_.id,.slice ac nc cc,.slice ap np cp,.slice al nl cl,.slice ak nk ck] wa:=by rw [YP];exact CB.new _ _ _
     have hba:Below w.heap.size w wa:=by rw [YP];exact iM.out.alloc iM.out.size _
     rw [<- YP];clear YP c0 c1 c2 c3 c4 c5 c6 c7 c8 c9 c10;have d2:=hcb.cell 2 _ rfl;have d3:=hcb.cell 3 _ rfl;have d4:=hcb.cell 4 _ rfl;have d5:=hcb.cell 5 _ rfl;have d6:=hcb.cell 6 _ rfl;have d7:=hcb.cell 7 _ rfl;have d8:=hcb.cell 8 _ rfl;have AX:=hid hcb;have Ew:=hid hba;have LG:=hid (I6 at_ _ _ wa (HR.out.at_.up hba) X6.out);clear hcb hba;by_cases h3:300<t.size+inf.size+d.size+ti.size
     ·have e4:decide ((300:Int)<(t.size:Int)+(inf.size:Int)+(d.size:Int)+(ti.size:Int))=true:=by simp;omega
      go_wp2;go_ret;exact ⟨1000,rfl,by unfold hvB;omega,(fun h=>by omega),Ew.out⟩
     have e4:decide ((300:Int)<(t.size:Int)+(inf.size:Int)+(d.size:Int)+(ti.size:Int))=false:=by simp;omega
     go_wp2_with fail
     refine LG.out.mono ?_;rintro e wb ⟨b,rfl,hsh,hbb⟩;have VJ:=q01 Ew.out hbb;have Fu:=AX.out.below hbb;have d9:=Fu.cell 9 _ rfl;have d10:=Fu.cell 10 _ rfl;have HSH:=hid hsh;have Ed:=hid VJ;have Vu:=hid Fu;clear LG Ew AX d2 d3 d4 d5 d6 d7 d8 hsh hbb VJ Fu;cases b with
     | true=>
      go_wp2;go_ret;exact ⟨1000,rfl,by unfold hvB;omega,(fun h=>by omega),Ed.out⟩
     | false=>
     have S0:wb.drew.cell? ⟨wr.heap.size,9,none⟩=some (.slice al nl cl)/\wb.drew.cell? ⟨wr.heap.size,10,none⟩=some (.slice ak nk ck)/\Below wb.heap.size wb wb.drew:=⟨d9,d10,iR (Below.refl _ _) 1⟩;have CW:Hid (∀ w',Below wb.heap.size wb w'->Calls Tryz.prog 76 #[.slice al nl cl,.int .i64 0] w' fun e w''=>∃ m:Nat,e=.returned (.int .i64 m)/\m<=22*140737488355328/\(m<=120->aj.aB li/\aj.aY li<=m)/\w''.cell? ⟨wr.heap.size,9,none⟩=some (.slice al nl cl)/\w''.cell? ⟨wr.heap.size,10,none⟩=some (.slice ak nk ck)/\Below wb.heap.size wb w''):=by intro w' hb;refine (L6 (aj.aY li) li 0 (.slice al nl cl) w' (Nat.le_refl _) (by omega) ((HR.out.line.up Ed.out).up hb) X7.out).mono ?_;exact jj8
     have CH:Hid (∀ w',Below wb.heap.size wb w'->Calls Tryz.prog 31 #[.slice ak nk ck,.int .i64 ((dp:Int)+1)] w' fun e w''=>∃ m:Nat,e=.returned (.int .i64 m)/\m<=(22-(dp+1))*(23*140737488355328)/\(m<=120->ah.aB ks/\ah.dA ks<=m)/\w''.cell? ⟨wr.heap.size,9,none⟩=some (.slice al nl cl)/\w''.cell? ⟨wr.heap.size,10,none⟩=some (.slice ak nk ck)/\Below wb.heap.size wb w''):=by intro w' hb;refine (IH.out (ah.aY ks) (by omega) ks (dp+1) (.slice ak nk ck) w' (Nat.le_refl _) (by omega) ((HR.out.kids.up Ed.out).up hb) X9.out).mono ?_;exact jj8
     have IHW:=IH;clear IH HS V9;go_wp2_with fail
     refine wp_region_any (by kernel_rfl) ?_;change wpAny _ _ _ _ _ _ _ (World.drew _);refine wpAny_take (i := 0) (oi := { dst := some 51, op := Op.move (Operand.tmp 5), type := 3, pos := "ref.go:633", after := #[], guard := none }) (v := ?jCx) rfl (by kernel_rfl) (by kernel_rfl) (by kernel_rfl) (fun _ _ _ h => h) (Or.inl ⟨by rfl, ?jA4⟩) ?_;case jA4=>(intro w;go_simp;try (with_reducible rfl))
     refine wpAny_take (i := 1) (oi := { dst := some 52, op := Op.fieldAddr 48 (Operand.tmp 7) 7, type := 0, pos := "ref.go:633", after := #[], guard := none }) (v := ?jCz) rfl (by kernel_rfl) (by kernel_rfl) (by kernel_rfl) (fun _ _ _ h => h) (Or.inl ⟨by rfl, ?jA5⟩) ?_;case jA5=>(intro w;go_simp;try (with_reducible rfl))
     refine wpAny_take (i := 4) (oi := { dst := some 55, op := Op.fieldAddr 48 (Operand.tmp 7) 8, type := 0, pos := "ref.go:633", after := #[], guard := none }) (v := ?jD0) rfl (by kernel_rfl) (by kernel_rfl) (by kernel_rfl) (fun _ _ _ h => h) (Or.inl ⟨by rfl, ?jA6⟩) ?_;case jA6=>(intro w;go_simp;try (with_reducible rfl))
     refine wpAny_take (i := 6) (oi := { dst := some 57, op := Op.move (Operand.tmp 1), type := 3, pos := "ref.go:633", after := #[], guard := none }) (v := ?jD1) rfl (by kernel_rfl) (by kernel_rfl) (by kernel_rfl) (fun _ _ _ h => h) (Or.inl ⟨by rfl, ?jA7⟩) ?_;case jA7=>(intro w;go_simp;try (with_reducible rfl))
     refine wpAny_take (i := 7) (oi := { dst := some 58, op := Op.binOp BinOp.add 3 (Operand.tmp 57) (Operand.const (Value.int IntKind.i64 1)) 3, type := 3, pos := "ref.go:633", after := #[{ on := 6, ground := Ground.data }], guard := none }) (v := .int .i64 ((dp : Int) + 1)) rfl (by kernel_rfl) (by kernel_rfl) (by kernel_rfl) (fun _ _ _ h => h) (Or.inl ⟨by rfl, ?jA8⟩) ?_;case jA8=>(intro w;go_simp;try (exact ji (by omega) (by omega)))
     refine wpAny_ready (rs:=[2,5]) (by kernel_rfl) (by simp) ?_;refine AllReady.cons rfl (fun K hK=>?_) (AllReady.cons rfl (fun K hK=>?_) AllReady.nil)
     ·
      go_simp;refine hK _ _ ?_;clear hK K;refine wpAny_ready (rs:=[3,5]) (by kernel_rfl) (by simp) ?_;refine AllReady.cons rfl (fun K hK=>?_) (AllReady.cons rfl (fun K hK=>?_) AllReady.nil)
      ·
       go_simp;refine (CW.out _ S0.2.2).mono ?_;rintro e w6 ⟨wk,rfl,hwk,AA,g9,g10,b6⟩;have HW2:=hid AA;clear AA;dsimp only;refine hK _ _ ?_;clear hK K;refine wpAny_ready (rs:=[5]) (by kernel_rfl) (by simp) ?_;refine AllReady.cons rfl (fun K hK=>?_) AllReady.nil;go_simp;refine hK _ _ ?_;clear hK K;refine wpAny_ready (rs:=[8]) (by kernel_rfl) (by simp) ?_;refine AllReady.cons rfl (fun K hK=>?_) AllReady.nil;go_simp;refine (CH.out _ b6).mono ?_;rintro e w7 ⟨hv,rfl,hhv,I7,-,-,b7⟩;have HH2:=hid I7;have HB7:=hid (q01 Ed.out b7);clear I7;dsimp only;refine hK _ _ ?_;clear hK K;refine wpAny_take (i := 9) (oi := { dst := some 60, op := Op.binOp BinOp.add 3 (Operand.tmp 54) (Operand.tmp 59) 3, type := 3, pos := "ref.go:633", after := #[{ on := 3, ground := Ground.data }, { on := 8, ground := Ground.data }], guard := none }) (v := .int .i64 ((wk : Int) + (hv : Int))) rfl (by kernel_rfl) (by kernel_rfl) (by kernel_rfl) (fun _ _ _ h => h) (Or.inl ⟨by rfl, ?jA9⟩) ?_;case jA9=>(intro w;go_simp;try (exact ji (by omega) (by omega)))
       refine wpAny_take (i := 10) (oi := { dst := some 61, op := Op.binOp BinOp.add 3 (Operand.tmp 51) (Operand.tmp 60) 3, type := 3, pos := "ref.go:633", after := #[{ on := 0, ground := Ground.data }, { on := 9, ground := Ground.data }], guard := none }) (v := .int .i64 ((m : Int) + ((wk : Int) + (hv : Int)))) rfl (by kernel_rfl) (by kernel_rfl) (by kernel_rfl) (fun _ _ _ h => h) (Or.inl ⟨by rfl, ?jvq⟩) ?_;case jvq=>(intro w;go_simp;try (exact ji (by omega) (by omega)))
       refine wpAny_take (i := 11) (oi := { dst := some 5, op := Op.assign (Operand.tmp 61), type := 3, pos := "ref.go:633", after := #[{ on := 10, ground := Ground.data }, { on := 8, ground := Ground.chain }, { on := 0, ground := Ground.phase }, { on := 1, ground := Ground.phase }, { on := 2, ground := Ground.phase }, { on := 3, ground := Ground.phase }, { on := 4, ground := Ground.phase }, { on := 5, ground := Ground.phase }, { on := 6, ground := Ground.phase }, { on := 7, ground := Ground.phase }, { on := 8, ground := Ground.phase }, { on := 9, ground := Ground.phase }, { on := 10, ground := Ground.phase }], guard := none }) (v := ?jB4) rfl (by kernel_rfl) (by kernel_rfl) (by kernel_rfl) (fun _ _ _ h => h) (Or.inl ⟨by rfl, ?jvx⟩) ?_;case jvx=>(intro w;go_simp;try (with_reducible rfl))
       refine wpAny_done (by kernel_rfl) ?_ _;go_wp2;go_roundw;case rel=>
        exact VN
       case measure=>simp [intOf];omega
      ·
       go_simp;refine hK _ _ ?_;clear hK K;refine wpAny_ready (rs:=[3]) (by kernel_rfl) (by simp) ?_;refine AllReady.cons rfl (fun K hK=>?_) AllReady.nil;go_simp;refine (CW.out _ S0.2.2).mono ?_;rintro e w6 ⟨wk,rfl,hwk,AA,g9,g10,b6⟩;have HW2:=hid AA;clear AA;dsimp only;refine hK _ _ ?_;clear hK K;refine wpAny_ready (rs:=[8]) (by kernel_rfl) (by simp) ?_;refine AllReady.cons rfl (fun K hK=>?_) AllReady.nil;go_simp;refine (CH.out _ b6).mono ?_;rintro e w7 ⟨hv,rfl,hhv,I7,-,-,b7⟩;have HH2:=hid I7;have HB7:=hid (q01 Ed.out b7);clear I7;dsimp only;refine hK _ _ ?_;clear hK K;refine wpAny_take (i := 9) (oi := { dst := some 60, op := Op.binOp BinOp.add 3 (Operand.tmp 54) (Operand.tmp 59) 3, type := 3, pos := "ref.go:633", after := #[{ on := 3, ground := Ground.data }, { on := 8, ground := Ground.data }], guard := none }) (v := .int .i64 ((wk : Int) + (hv : Int))) rfl (by kernel_rfl) (by kernel_rfl) (by kernel_rfl) (fun _ _ _ h => h) (Or.inl ⟨by rfl, ?jAj⟩) ?_;case jAj=>(intro w;go_simp;try (exact ji (by omega) (by omega)))
       refine wpAny_take (i := 10) (oi := { dst := some 61, op := Op.binOp BinOp.add 3 (Operand.tmp 51) (Operand.tmp 60) 3, type := 3, pos := "ref.go:633", after := #[{ on := 0, ground := Ground.data }, { on := 9, ground := Ground.data }], guard := none }) (v := .int .i64 ((m : Int) + ((wk : Int) + (hv : Int)))) rfl (by kernel_rfl) (by kernel_rfl) (by kernel_rfl) (fun _ _ _ h => h) (Or.inl ⟨by rfl, ?jpq⟩) ?_;case jpq=>(intro w;go_simp;try (exact ji (by omega) (by omega)))
       refine wpAny_take (i := 11) (oi := { dst := some 5, op := Op.assign (Operand.tmp 61), type := 3, pos := "ref.go:633", after := #[{ on := 10, ground := Ground.data }, { on := 8, ground := Ground.chain }, { on := 0, ground := Ground.phase }, { on := 1, ground := Ground.phase }, { on := 2, ground := Ground.phase }, { on := 3, ground := Ground.phase }, { on := 4, ground := Ground.phase }, { on := 5, ground := Ground.phase }, { on := 6, ground := Ground.phase }, { on := 7, ground := Ground.phase }, { on := 8, ground := Ground.phase }, { on := 9, ground := Ground.phase }, { on := 10, ground := Ground.phase }], guard := none }) (v := ?jAk) rfl (by kernel_rfl) (by kernel_rfl) (by kernel_rfl) (fun _ _ _ h => h) (Or.inl ⟨by rfl, ?jpx⟩) ?_;case jpx=>(intro w;go_simp;try (with_reducible rfl))
       refine wpAny_done (by kernel_rfl) ?_ _;go_wp2;go_roundw;case rel=>
        exact VN
       case measure=>simp [intOf];omega
     ·
      go_simp;refine hK _ _ ?_;clear hK K;refine wpAny_ready (rs:=[2]) (by kernel_rfl) (by simp) ?_;refine AllReady.cons rfl (fun K hK=>?_) AllReady.nil;go_simp;refine hK _ _ ?_;clear hK K;refine wpAny_ready (rs:=[3]) (by kernel_rfl) (by simp) ?_;refine AllReady.cons rfl (fun K hK=>?_) AllReady.nil;go_simp;refine (CW.out _ S0.2.2).mono ?_;rintro e w6 ⟨wk,rfl,hwk,AA,g9,g10,b6⟩;have HW2:=hid AA;clear AA;dsimp only;refine hK _ _ ?_;clear hK K;refine wpAny_ready (rs:=[8]) (by kernel_rfl) (by simp) ?_;refine AllReady.cons rfl (fun K hK=>?_) AllReady.nil;go_simp;refine (CH.out _ b6).mono ?_;rintro e w7 ⟨hv,rfl,hhv,I7,-,-,b7⟩;have HH2:=hid I7;have HB7:=hid (q01 Ed.out b7);clear I7;dsimp only;refine hK _ _ ?_;clear hK K;refine wpAny_take (i := 9) (oi := { dst := some 60, op := Op.binOp BinOp.add 3 (Operand.tmp 54) (Operand.tmp 59) 3, type := 3, pos := "ref.go:633", after := #[{ on := 3, ground := Ground.data }, { on := 8, ground := Ground.data }], guard := none }) (v := .int .i64 ((wk : Int) + (hv : Int))) rfl (by kernel_rfl) (by kernel_rfl) (by kernel_rfl) (fun _ _ _ h => h) (Or.inl ⟨by rfl, ?jvz⟩) ?_;case jvz=>(intro w;go_simp;try (exact ji (by omega) (by omega)))
      refine wpAny_take (i := 10) (oi := { dst := some 61, op := Op.binOp BinOp.add 3 (Operand.tmp 51) (Operand.tmp 60) 3, type := 3, pos := "ref.go:633", after := #[{ on := 0, ground := Ground.data }, { on := 9, ground := Ground.data }], guard := none }) (v := .int .i64 ((m : Int) + ((wk : Int) + (hv : Int)))) rfl (by kernel_rfl) (by kernel_rfl) (by kernel_rfl) (fun _ _ _ h => h) (Or.inl ⟨by rfl, ?jpz⟩) ?_;case jpz=>(intro w;go_simp;try (exact ji (by omega) (by omega)))
      refine wpAny_take (i := 11) (oi := { dst := some 5, op := Op.assign (Operand.tmp 61), type := 3, pos := "ref.go:633", after := #[{ on := 10, ground := Ground.data }, { on := 8, ground := Ground.chain }, { on := 0, ground := Ground.phase }, { on := 1, ground := Ground.phase }, { on := 2, ground := Ground.phase }, { on := 3, ground := Ground.phase }, { on := 4, ground := Ground.phase }, { on := 5, ground := Ground.phase }, { on := 6, ground := Ground.phase }, { on := 7, ground := Ground.phase }, { on := 8, ground := Ground.phase }, { on := 9, ground := Ground.phase }, { on := 10, ground := Ground.phase }], guard := none }) (v := ?jAq) rfl (by kernel_rfl) (by kernel_rfl) (by kernel_rfl) (fun _ _ _ h => h) (Or.inl ⟨by rfl, ?jq0⟩) ?_;case jq0=>(intro w;go_simp;try (with_reducible rfl))
      refine wpAny_done (by kernel_rfl) ?_ _;go_wp2;go_roundw;case rel=>
       exact VN
      case measure=>simp [intOf];omega
    ·have e3:decide ((m:Int)<(1000:Int))=false:=by simp;omega
     clear HS IH V9;go_wp2;go_ret;exact ⟨m,rfl,by unfold hvB;omega,(fun h=>by omega),iM.out⟩
   ·have hkl:k=l.length:=by omega
    subst hkl;clear HS IH V9;go_wp2;go_ret;refine ⟨m,rfl,by unfold hvB;omega,(fun h=>?_),iM.out⟩;have:=Ea.out h;rw [List.take_length] at this;exact ⟨this.1,by omega⟩
open Go.RowKit
structure TA (me:List Pr) (l:List ah):Prop where
 meta_:me.length<=70
 jD2:∀ p∈me,p.key.size<=300/\p.val.size<=300
 blks:ah.aB l
 all:ah.dA l<=120
def jjj (me:List Pr) (w0:World) (vi:Value) (wr:World):Prop:=∃ k q:Nat,k<=me.length/\vi=.int .i64 k/\(∀ p∈me.take k,p.key.size<=300/\p.val.size<=300)/\wr=w0.drewN q
theorem OT (me:List Pr) (l:List ah) (vm vb:Value) (w:World) (hm:Rd (·<w.heap.size) w (q32 me) [vm]) (hb:Rd (·<w.heap.size) w (nN l) [vb]) (hwm:∀ p∈me,p.wf) (hwl:ah.wT l) : Calls Tryz.prog 11 #[.agg #[vm,vb]] w fun e w'=>∃ b,e=.returned (.bool b)/\(b=true->TA me l)/\Below w.heap.size w w':=by
 obtain ⟨am,cm,hvm,hsm⟩:=Rd.ay hm;obtain rfl:vm=.slice am me.length cm:=by simpa using hvm
 have hcm:me.length<=cm:=by simpa using hsm.le
 have hmm:=hsm.max;unfold maxLen at hmm;obtain ⟨ab,nb,cb,rfl⟩:=Rd.zK hb;obtain ⟨w0,hw0⟩:∃ w0,w0=w.alloc (.cells #[.slice am me.length cm,.slice ab nb cb] 26):=⟨_,rfl⟩;refine QN ?_;intro hb0;have q0:w0.cell? ⟨w.heap.size,0,none⟩=some (.slice am me.length cm):=by rw [hw0];exact F5 w [.slice am me.length cm,.slice ab nb cb] _ 0 _ rfl
 have q1:w0.cell? ⟨w.heap.size,1,none⟩=some (.slice ab nb cb):=by rw [hw0];exact F5 w [.slice am me.length cm,.slice ab nb cb] _ 1 _ rfl
 have HP:Hid (∀ k p,me[k]?=some p->∃ b off,am=some ⟨b,off,none⟩/\w0.cell? ⟨b,off+k*2,none⟩=some (.string p.key)/\w0.cell? ⟨b,off+k*2+1,none⟩=some (.string p.val)/\p.key.size<=140737488351232/\p.val.size<=140737488351232):=by intro k p hp;obtain ⟨b,off,ha,hok,hb,c0,c1⟩:=lU hsm hp;have hw:=hwm p (List.mem_of_getElem? hp);unfold Pr.wf xE at hw;rw [kK] at hw;exact ⟨b,off,ha,(jq (hb0.block b hok) _).trans c0,(jq (hb0.block b hok) _).trans c1,hw⟩
 have HV:Hid (∀ q,Calls Tryz.prog 31 #[.slice ab nb cb,.int .i64 0] (w0.drewN q) (VL (w0.drewN q) l 0)):=fun q=>P8 (ah.aY l) l 0 (.slice ab nb cb) (w0.drewN q) (Nat.le_refl _) (by omega) ((hb.up hb0).up (iR (Below.refl _ _) q)) hwl
 have HB0:=hid hb0;clear hm hb hsm hvm hwm hwl hb0;by_cases h70:70<me.length
 ·have e1:decide ((70:Int)<(me.length:Int))=true:=by simp;omega
  clear HP HV;go_enter Tryz.func11,Tryz.ntmps11;go_upto_region 1 with (fail)
  rw [<- hw0];clear hw0;go_wp2;go_ret;exact ⟨false,rfl,(fun h=>by cases h),HB0.out⟩
 have e1:decide ((70:Int)<(me.length:Int))=false:=by simp;omega
 have R1:Hid (jjj me w0 (.int .i64 0) w0):=⟨0,0,Nat.zero_le _,rfl,by simp,rfl⟩;go_enter Tryz.func11,Tryz.ntmps11;go_upto_region 1 with (fail)
 rw [<- hw0];clear hw0;go_wp2
 go_loopw [3] (fun vi wr=>jjj me w0 vi wr) (fun i _=>me.length-(intOf i).toNat)
 case atStart=>exact R1.out
 case round=>
  clear R1;obtain ⟨k,q,hk,rfl,hall,rfl⟩:=hrel;have HA:=hid hall;clear hall;by_cases hlt:k<me.length
  ·obtain ⟨p,hp⟩:∃ p,me[k]?=some p:=⟨_,List.getElem?_eq_getElem hlt⟩;obtain ⟨b,off,rfl,c0,c1,hy1,hy2⟩:=HP.out k p hp;have HY:=hid hp;clear hp;obtain ⟨py,pv⟩:=p;dsimp only at c0 c1 hy1 hy2;by_cases h3:300<py.size+pv.size
   ·have e2:decide ((300:Int)<(py.size:Int)+(pv.size:Int))=true:=by simp;omega
    go_wp2_with fail
    go_quiet (fail)
    go_wp2;go_ret;exact ⟨false,rfl,(fun h=>by cases h),iR (iR HB0.out q) nq⟩
   ·have e2:decide ((300:Int)<(py.size:Int)+(pv.size:Int))=false:=by simp;omega
    go_wp2_with fail
    go_quiet (fail)
    go_wp2;go_roundw;case rel=>exact ⟨k+1,_,by omega,by go_num,q37 HY.out HA.out ⟨by show py.size<=300;omega,by show pv.size<=300;omega⟩,rfl⟩
    case measure=>simp [intOf];omega
  ·have hkl:k=me.length:=by omega
   subst hkl;clear HP;go_wp2_with fail
   refine (HV.out q).mono ?_;rintro e w2 ⟨m,rfl,hm1,hm2,hb2⟩;have HM2:=hid hm2;have HB2:=hid (q01 (iR HB0.out q) hb2);clear hm2 hb2 HV;by_cases h1:m<=120
   ·have e3:decide ((m:Int)<=(120:Int))=true:=by simp;omega
    go_wp2;go_ret;refine ⟨true,rfl,fun _=>?_,HB2.out⟩;obtain ⟨i1,i2⟩:=HM2.out h1;have hA:=HA.out;rw [List.take_length] at hA;exact ⟨by omega,hA,i1,by omega⟩
   ·have e3:decide ((m:Int)<=(120:Int))=false:=by simp;omega
    go_wp2;go_ret;exact ⟨false,rfl,(fun h=>by cases h),HB2.out⟩
end Go.Proofs.YtkfnkeflalcphaaGreatDoor

