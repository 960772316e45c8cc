/- Printed by a program: the walk. -/
import Derived.Test.YtkghndikalnipacGreatZTh
set_option linter.unusedSimpArgs false
set_option linter.unusedVariables false
namespace Go.Proofs.YtkghndikalnipacGreat.En
open Go
abbrev DC:=@Int.toNat_natCast
abbrev DD:=@Int.natCast_nonneg
abbrev DE:=@Int.ofNat_lt
abbrev DF:=@List.getElem_mem
abbrev DG:=@List.getElem?_set_self
abbrev DH:=@Int.lt_irrefl
abbrev DI:=@List.length_set
abbrev DJ:=@List.getElem?_set_ne
abbrev DK:=@List.take_length
abbrev DL:=@List.pairwise_iff_getElem
abbrev DM:=@List.take_add_one
abbrev DN:=@List.pairwise_cons
abbrev DP:=@Int.toNat_of_nonneg
abbrev DQ:=@Nat.not_lt_zero
abbrev DR:=@List.filter_append
abbrev DS:=@Nat.le_succ_of_le
abbrev DT:=@List.pairwise_append
abbrev DU:=@Nat.sub_zero
abbrev DV:=@Sum.elim_inl
abbrev DW:=@List.flatten_append
abbrev DX:=@Sum.elim_inr
abbrev DY:=@List.getElem_take
abbrev DZ:=@List.pairwise_singleton
abbrev D0:=@List.mem_filter
abbrev D3:=@Int.toNat_zero
abbrev D4:=@List.length_filter_le
abbrev D5:=@List.getElem?_concat_length
abbrev D6:=@List.eq_of_mem_replicate
abbrev D7:=@List.getElem?_take_of_lt
abbrev D8:=@List.getElem_set
abbrev D9:=@Bool.false_and
noncomputable section
abbrev KJ:List Ty:=[.i .i64]
abbrev Nb:List Ty:=[.ls (.i .i64)]
abbrev Od:List Ty:=[.st .cluster,.i .i64]
abbrev Vb:List Ty:=[.ls (.st .entry)]
abbrev Wm:List Ty:=[.st .config,.b]
abbrev Wn:List Ty:=[.ls (.st .entry),.b]
abbrev aaf:List Ty:=[.st .cluster,.ls (.st .event)]
abbrev aag:List Ty:=[.i .i64,.ls (.st .entry)]
abbrev aah:List Ty:=[.st .cluster,.st .reply]
abbrev Mn:List jZ:=[.ty (.st .cluster),.ty (.i .i64)]
abbrev Qq:List jZ:=[.ty (.ls (.st .entry))]
abbrev R5:List jZ:=[.ty (.st .cluster)]
abbrev R6:List jZ:=[.ty (.st .cluster),.ty (.i .i64),.ty (.i .i64)]
abbrev Ui:List jZ:=[.ty (.i .i64)]
abbrev Uj:List jZ:=[.ty (.ls (.i .i64)),.ty (.ls (.i .i64))]
abbrev Uk:List jZ:=[.ty (.st .server),.ty (.i .i64)]
abbrev U9:List jZ:=[.ty (.ls (.i .i64))]
abbrev Wk:List jZ:=[.ty (.st .config)]
abbrev Wl:List jZ:=[.ty (.st .masterLog)]
abbrev Ug:List jZ:=[.ty (.st .server)]
abbrev Uh:List jZ:=[.ty (.ls (.i .i64)),.ty (.i .i64)]
abbrev VA:List jZ:=[.ty (.st .op)]
abbrev VB:List jZ:=[.ty (.ls (.st .entry)),.ty (.ls (.st .entry))]
abbrev W3:List jZ:=[.ty (.i .i64),.ty (.i .i64),.ty (.i .i64)]
abbrev W4:List jZ:=[.ty (.ls (.st .place))]
abbrev W5:List jZ:=[.ty (.st .masterLog),.ty (.i .i64)]
abbrev W6:List jZ:=[.ty (.st .lease)]
abbrev W7:List jZ:=[.ty (.ls (.i .i64)),.ty (.i .i64),.ty (.i .i64)]
abbrev YE:List jZ:=[.ty (.st .config),.ty (.st .config)]
abbrev YF:List jZ:=[.ty (.st .config),.ty (.i .i64)]
abbrev YG:List jZ:=[.ty (.ls (.st .entry)),.ty (.i .i64),.ty (.i .i64)]
abbrev YH:List jZ:=[.ty (.st .machine),.ty (.i .i64)]
abbrev YI:List jZ:=[.ty (.st .cluster),.ty (.i .i64),.ty (.st .op)]
abbrev YJ:List jZ:=[.ty (.ls (.st .entry)),.ty (.i .i64)]
abbrev YK:List jZ:=[.ty (.i .i64),.ty (.ls (.st .entry))]
abbrev YL:List jZ:=[.ty (.ls (.st .entry)),.ty (.i .i64),.ty (.ls (.st .entry))]
abbrev YM:List jZ:=[.ty (.st .cluster),.ty (.i .i64),.ty (.i .i64),.ty (.i .i64)]
abbrev YN:List jZ:=[.ty (.st .cluster),.ty (.st .event)]
abbrev YO:List jZ:=[.ty (.st .cluster),.ty (.ls (.st .event))]
abbrev YP:List jZ:=[.ty (.i .i64),.ty (.i .i64)]
abbrev YQ:List jZ:=[.ty (.ls (.i .i64)),.fc 182]
abbrev YR:List jZ:=[.ty (.ls (.st .place)),.fc 184]
abbrev Mq:Type:=(Int×Unit×Unit×Unit×Int×Int×Int×Int×Int×Unit×Unit)
abbrev MO:Type:=(Int×List qj×List Int×List nE×Int×Int×Int×Int×Int×List uN×Unit)
abbrev PF:Type:=(Int×Int×Unit×Unit×Unit)
abbrev Va:Type:=(Unit×Int×Unit)
abbrev Yb:Type:=(Unit×Unit×Int×Unit)
abbrev Yc:Type:=(Unit×Unit×Unit)
abbrev ZB:Type:=(Unit×Unit×Unit×Int×Unit)
abbrev ZC:Type:=(List nE×Int×Unit)
abbrev ZD:Type:=(List Int×List Int×Unit×Int×Unit)
abbrev ZE:Type:=(List Int×List nq×Unit)
abbrev Xh:Type:=(Int×Unit×Unit×Unit×Bool×Int×Unit)
abbrev Xi:Type:=(Bool×Bool×Int×Int×Int×Int×List Int×List Int×Int×List rj×Int×List rj×Unit)
abbrev Xj:Type:=(Unit×Unit×Unit×Unit×Unit×Unit×Int×Unit)
abbrev YW:Type:=(List Int×Int×Unit)
abbrev YX:Type:=(List Int×Int×Int×Unit)
abbrev YY:Type:=(List rj×Int×Unit)
abbrev YZ:Type:=(List Int×Unit×Int×Unit)
abbrev Y0:Type:=(Unit×Int×Unit×Int×Unit)
abbrev Y1:Type:=(List rj×List rj×Int×Unit)
abbrev Y2:Type:=(List Int×List Int×Int×Int×Unit)
abbrev Y3:Type:=(List rj×List rj×Int×Int×Unit)
abbrev Jq:Nat×lU:=(1,.cl (.ptr 0 0))
abbrev KI:Nat×lU:=(1,.cl (.int .i64))
abbrev M9:Nat×lU:=(3,.cl (.int .i64))
abbrev Na:Nat×lU:=(5,.cl (.int .i64))
abbrev NL:Nat×lU:=(2,.cl (.dead))
abbrev NM:Nat×lU:=(6,.cl (.int .i64))
abbrev NN:Nat×lU:=(0,.cl (.ro (.i .i64)))
abbrev Oc:Nat×lU:=(2,.cl (.ptr 0 0))
abbrev OK:Nat×lU:=(2,.cl (.bl))
abbrev OL:Nat×lU:=(7,.cl (.int .i64))
abbrev LL:Nat×lU:=(6,.cl (.ptr 1 0))
abbrev Ma:Nat×lU:=(4,.cl (.int .i64))
abbrev Mb:Nat×lU:=(0,.cl (.ro (.st .entry)))
abbrev MN:Nat×lU:=(5,.cl (.own 0 (.i .i64)))
abbrev NJ:Nat×lU:=(2,.cl (.ptr 1 0))
abbrev NK:Nat×lU:=(0,.cl (.own 0 (.i .i64)))
abbrev Om:Nat×lU:=(4,.cl (.bl))
abbrev Oo:Nat×lU:=(4,.cl (.ptr 0 0))
abbrev Oq:Nat×lU:=(9,.cl (.bl))
abbrev O9:Nat×lU:=(4,.cl (.dead))
abbrev Pa:Nat×lU:=(1,.cl (.ro (.i .i64)))
abbrev Pb:Nat×lU:=(2,.cl (.int .i64))
abbrev Pc:Nat×lU:=(12,.cl (.int .i64))
abbrev P3:Nat×lU:=(8,.cl (.int .i64))
abbrev P4:Nat×lU:=(4,.cl (.ptr 2 0))
abbrev P5:Nat×lU:=(5,.cl (.ptr 3 0))
abbrev Rb:Nat×lU:=(0,.cl (.ro (.st .place)))
abbrev Rc:Nat×lU:=(4,.cl (.ptr 1 0))
abbrev Rd:Nat×lU:=(3,.cl (.ptr 0 0))
abbrev Re:Nat×lU:=(7,.cl (.own 0 (.st .entry)))
abbrev Rf:Nat×lU:=(9,.cl (.own 1 (.i .i64)))
abbrev Sw:Nat×lU:=(3,.cl (.own 0 (.i .i64)))
abbrev Sx:Nat×lU:=(6,.cl (.own 0 (.st .entry)))
abbrev Ul:Nat×lU:=(3,.cl (.ptr 1 0))
abbrev Um:Nat×lU:=(8,.cl (.bl))
abbrev Un:Nat×lU:=(7,.cl (.bl))
abbrev Uo:Nat×lU:=(10,.cl (.int .i64))
abbrev VD:Nat×lU:=(8,.cl (.own 0 (.i .i64)))
abbrev VE:Nat×lU:=(11,.cl (.int .i64))
abbrev VF:Nat×lU:=(3,.cl (.str))
abbrev VG:Nat×lU:=(5,.cl (.ptr 0 0))
abbrev VH:Nat×lU:=(8,.cl (.own 0 (.st .entry)))
abbrev W8:Nat×lU:=(3,.cl (.ptr 2 0))
abbrev W9:Nat×lU:=(7,.cl (.ptr 3 0))
abbrev Xa:Nat×lU:=(7,.cl (.own 0 (.i .i64)))
abbrev Xb:Nat×lU:=(9,.cl (.own 0 (.i .i64)))
abbrev Xc:Nat×lU:=(1,.cl (.ro (.st .entry)))
abbrev Xd:Nat×lU:=(8,.cl (.ptr 1 0))
abbrev Xe:Nat×lU:=(33,.cl (.own 1 (.i .i64)))
abbrev Xf:Nat×lU:=(34,.cl (.int .i64))
abbrev Xg:Nat×lU:=(35,.cl (.int .i64))
abbrev YS:Nat×lU:=(3,.cl (.own 1 (.st .place)))
abbrev YT:Nat×lU:=(5,.cl (.own 1 (.st .event)))
abbrev YU:Nat×lU:=(11,.cl (.own 1 (.i .i64)))
abbrev YV:Nat×lU:=(7,.cl (.own 0 (.st .reply)))
abbrev Iv:List Ty:=[.i .i64]
abbrev Up:List Ty:=[.st .server,.i .i64,.st .config,.st .place]
abbrev Vg:List Ty:=[.st .entry,.i .i64,.st .server,.i .i64,.st .config,.st .place,.i .i64,.i .i64]
abbrev Wo:List Ty:=[.st .entry,.i .i64,.i .i64]
abbrev Xo:List Ty:=[.i .i64,.i .i64]
abbrev Ye:List Ty:=[.i .i64,.st .session]
abbrev Yf:List Ty:=[.i .i64,.st .server,.i .i64,.st .config,.st .place]
abbrev Yg:List Ty:=[.st .entry]
abbrev aai:List Ty:=[.st .server,.i .i64,.st .place]
abbrev aaj:List Ty:=[.i .i64,.i .i64,.i .i64,.i .i64]
abbrev Za:List Ty:=[.i .i64,.i .i64,.i .i64]
abbrev Zb:List Ty:=[.st .reply,.st .server,.i .i64,.st .config,.st .place]
abbrev Jr:List Sh:=[.int .i64,.ro (.st .server),.ro (.i .i64),.ro (.st .config),.int .i64,.int .i64,.int .i64,.int .i64,.int .i64,.ro (.st .place)]
abbrev MP:List Sh:=[.int .i64,.em,.em,.em,.int .i64,.int .i64,.int .i64,.int .i64,.int .i64,.em]
abbrev R7:List Sh:=[.int .i64,.own 0 (.st .server),.own 1 (.i .i64),.own 2 (.st .config),.int .i64,.int .i64,.int .i64,.int .i64,.int .i64,.own 3 (.st .place)]
abbrev Tn:List Sh:=[.int .i64,.own 2 (.st .server),.own 3 (.i .i64),.own 4 (.st .config),.int .i64,.int .i64,.int .i64,.int .i64,.int .i64,.own 5 (.st .place)]
abbrev Vc:List Sh:=[.ro (.st .config),.int .i64]
abbrev Vd:List Sh:=[.ro (.i .i64),.ro (.st .session)]
abbrev Ve:List Sh:=[.int .i64,.own 1 (.st .server),.own 2 (.i .i64),.own 3 (.st .config),.int .i64,.int .i64,.int .i64,.int .i64,.int .i64,.own 4 (.st .place)]
abbrev Vf:List Sh:=[.int .i64,.int .i64,.own 6 (.i .i64),.own 7 (.i .i64)]
abbrev Xn:List Sh:=[.int .i64,.int .i64,.own 1 (.i .i64),.own 2 (.i .i64)]
abbrev Yd:List Sh:=[.int .i64,.int .i64,.own 0 (.i .i64),.own 1 (.i .i64)]
abbrev VI:List Sh:=[.bl,.int .i64]
abbrev VJ:List Sh:=[.own 0 (.i .i64),.own 1 (.st .session)]
abbrev Xk:List Sh:=[.int .i64,.int .i64,.bl,.int .i64]
abbrev Xl:List Sh:=[.bl,.bl,.int .i64,.int .i64,.int .i64,.int .i64,.ro (.i .i64),.ro (.i .i64),.int .i64,.ro (.st .entry),.int .i64,.ro (.st .entry)]
abbrev Xm:List Sh:=[.int .i64,.int .i64,.own 2 (.i .i64),.own 1 (.i .i64)]
abbrev Y4:List Sh:=[.int .i64,.own 0 (.st .server),.own 1 (.i .i64),.em,.int .i64,.int .i64,.int .i64,.int .i64,.int .i64,.own 2 (.st .place)]
abbrev Y5:List Sh:=[.own 0 (.st .config),.int .i64]
abbrev Y6:List Sh:=[.int .i64,.own 0 (.st .server),.ro (.i .i64),.ro (.st .config),.int .i64,.int .i64,.int .i64,.int .i64,.int .i64,.ro (.st .place)]
abbrev Y7:List Sh:=[.int .i64,.int .i64,.int .i64,.int .i64,.int .i64,.int .i64]
abbrev Y8:List Sh:=[.int .i64,.int .i64,.em,.em]
abbrev Y9:List Sh:=[.int .i64,.int .i64,.own 2 (.i .i64),.own 3 (.i .i64)]
def sb0:ByteArray:=⟨⟨[0,1,2,2,3,3,3,3,4,4,4,4,4,4,4,4,5,5,5,5,5,5,5,5,5,5,5,5,5,5,5,5,6,6,6,6,6,6,6,6,6,6,6,6,6,6,6,6,6,6,6,6,6,6,6,6,6,6,6,6,6,6,6,6,7,7,7,7,7,7,7,7,7,7,7,7,7,7,7,7,7,7,7,7,7,7,7,7,7,7,7,7,7,7,7,7,7,7,7,7,7,7,7,7,7,7,7,7,7,7,7,7,7,7,7,7,7,7,7,7,7,7,7,7,7,7,7,7,8,8,8,8,8,8,8,8,8,8,8,8,8,8,8,8,8,8,8,8,8,8,8,8,8,8,8,8,8,8,8,8,8,8,8,8,8,8,8,8,8,8,8,8,8,8,8,8,8,8,8,8,8,8,8,8,8,8,8,8,8,8,8,8,8,8,8,8,8,8,8,8,8,8,8,8,8,8,8,8,8,8,8,8,8,8,8,8,8,8,8,8,8,8,8,8,8,8,8,8,8,8,8,8,8,8,8,8,8,8,8,8,8,8,8,8,8,8,8,8,8,8,8,8,8,8,8,8]⟩⟩
theorem JM:Tryz.prog.follows .mixedOrders=true:=by kernel_rfl
abbrev Ie[dE] :=@DB _ _ DA JM _
abbrev E0[dE] :=@Ds _ _ DA JM _
abbrev coM[dE] :=@Dw _ _ DA JM _
abbrev coI[dE] :=@Dv _ _ DA JM _
abbrev coC[dE] :=@Dt _ _ DA JM _
abbrev Zp[dE] :=@Dx _ _ DA JM _
def WJ(a0:Hd):Option (Bool×Unit):=some (decide (1048576< (a0.n:Int)),())
section
open Go.RowKit
theorem Wx(x:Hd)(w:World):Calls Tryz.prog 6 #[.slice x.a x.n x.c] w λe w'=>e= .returned (.bool (decide (1048576< (x.n:Int))))/\Below w.heap.size w w':=by
 have mixed:Tryz.prog.follows .mixedOrders=true:=JM
 go_enter Tryz.func6,Tryz.ntmps6
 go_wp2
 go_ret
 exact⟨rfl,Below.refl _ _⟩
end
def aaa[dE] :=Du (P:=Tryz.prog) 6 (by kernel_rfl) (BN Tryz.func6 (by kernel_rfl) rfl) [.ty .h] [.b] rfl rfl (λx=>WJ x.1) λx y h w=>by obtain rfl:=Option.some.inj h;exact Wx x.1 w
def SN[dE](a0:Hd):Option (List qh×Unit):=(C2 a0).map λc=>([c],())
section
open Go.RowKit
set_option maxHeartbeats 4000000 in
set_option maxRecDepth 100000 in
theorem UB[dE](x:Hd)(c:qh)(hx:C2 x=some c)(w:World)(hB: ∀a v,dE.w.cell? a=some v->w.cell? a=some v):
  Calls Tryz.prog 24 #[.slice x.a x.n x.c] w λr w'=> ∃b cs e,r= .returned (.pointer (some ⟨b,0,none⟩))/\Below w.heap.size w w'/\w.heap.size<=b/\w'.heap[b]? =some (.cells cs e (0,0))/\cs.size=3/\jy cs 0 c:=by
 have mixed:Tryz.prog.follows .mixedOrders=true:=JM;obtain⟨l,hl,rfl⟩:=aj.1 hx;obtain⟨hlen,hg⟩:=Ba hl
 have hg2: ∀ (k:Nat) m,l[k]? =some m-> ∃ad,x.a=some ad/\w.cell? (ad.add k)=some (.int .u8 m):=λk m hk=>by obtain⟨ad,h1,h2⟩:=hg k m hk;exact⟨ad,h1,hB _ _ h2⟩
 clear hg hB hl hx;obtain⟨a,n,cp⟩:=x;simp only at hlen hg2 ⊢;obtain⟨h0,hh0⟩: ∃h0,h0=wrap64 (10101+(n:Int)):=⟨_,rfl⟩
 rw[<-hh0];obtain⟨hf,hhf⟩: ∃hf,hf=(l.take 4000).foldl C6 h0:=⟨_,rfl⟩
 rw[<-hhf]
 go_enter Tryz.func24,Tryz.ntmps24
 go_wp2
 rw[<-hh0]
 go_loop [3,4] (λh i=> ∃k:Nat,k<=n/\k<=4000/\i= .int .i64 k/\h= .int .i64 ((l.take k).foldl C6 h0)) (λ_ i=>n-(intOf i).toNat)
 case atStart=>exact⟨0,bM _,bM _,rfl,by rw[dw,List.foldl_nil]⟩
 case round=>
  obtain⟨k,hk,hk4,rfl,rfl⟩:=hrel;clear hh0;by_cases h1:k<n
  ·by_cases h2:k<4000
   ·have hgk:l[k]? =some l[k] :=aq (by omega);obtain⟨ad,rfl,hc⟩:=hg2 k _ hgk
    have hnext: (l.take (k+1)).foldl C6 h0=C6 ((l.take k).foldl C6 h0) l[k] :=by rw[DM,hgk,List.foldl_append,Option.toList_some,List.foldl_cons,List.foldl_nil]
    generalize l[k] =m at hc hnext hgk;clear hg2
    go_wp2
    refine⟨⟨k+1,h1,h2,by rw[Int.natCast_succ],by rw[hnext];rfl⟩,?_⟩;simp only[intOf];omega
   ·have hk0:l.take 4000=l.take k:=by rw[show k=4000 by omega]
    clear hg2
    go_wp2
    go_ret
    rw[hk0] at hhf;subst hhf;exact⟨_,rfl,(Below.refl _ w).alloc (ay _) _,ay _,_,⟨_,iw w _⟩,rfl,rfl,rfl,rfl⟩
  ·have hk0:l.take 4000=l.take k:=by rw[bW (by omega),bW (by omega)]
   clear hg2
   go_wp2
   go_ret
   rw[hk0] at hhf;subst hhf;exact⟨_,rfl,(Below.refl _ w).alloc (ay _) _,ay _,_,⟨_,iw w _⟩,rfl,rfl,rfl,rfl⟩
end
def X8[dE] :=Dm (P:=Tryz.prog) 24 (by kernel_rfl) (BN Tryz.func24 (by kernel_rfl) rfl) C2 UB
def MB[dE](a0:List qh):Option (List qh×Int×Unit):=C1 CH a0
section
open Go.RowKit
set_option maxHeartbeats 4000000 in
set_option maxRecDepth 100000 in
theorem TA[dE](c:qh)(y:qh×Int)(hy:CH c=some y)(w:World)(b O:Nat)(cs:Array Value)(e:TypeId)(hB: ∀a v,dE.w.cell? a=some v->w.cell? a=some v/\a.block≠b)(hb:w.heap[b]? =some (.cells cs e (0,0)))(hc:jy cs O c):
   Calls Tryz.prog 77 #[.pointer (some ⟨b,O,none⟩)] w λr w'=>r= .returned (.int .i64 y.2)/\w'.os=w.os/\w'.tape=w.tape/\w'.output=w.output/\w'.heap.size=w.heap.size/\(∀k,k≠b->w'.heap[k]? =w.heap[k]?)/\ ∃cs',w'.heap[b]? =some (.cells cs' e (0,0))/\cs'.size=cs.size/\jy cs' O y.1/\ ∀k,(k<O\/O+3<=k)->cs'[k]? =cs[k]? :=by
 have mixed:Tryz.prog.follows .mixedOrders=true:=JM;have h0:w.cell? ⟨b,O,none⟩=some (.slice c.b.a c.b.n c.b.c):=by simp[World.cell?,hb,hc.1]
 have h1:w.cell? ⟨b,O+1,none⟩=some (.int .i64 c.i):=by simp[World.cell?,hb,hc.2.1]
 have h2:w.cell? ⟨b,O+2,none⟩=some (.int .i64 c.h):=by simp[World.cell?,hb,hc.2.2]
 have hf1:w.frozen? ⟨b,O+1,none⟩=false:=by simp[World.frozen?,hb]
 have hf2:w.frozen? ⟨b,O+2,none⟩=false:=by simp[World.frozen?,hb]
 unfold CH at hy;split at hy
 ·rename_i hi;split at hy
  ·rename_i hi0;obtain⟨m,hm,rfl⟩:=aj.1 hy;obtain⟨l,hl,hm⟩:=ah.1 hm;obtain⟨_,hg⟩:=Ba hl;obtain⟨ad,ha,hcell⟩:=hg _ _ hm;obtain⟨hc2,hne⟩:=hB _ _ hcell;rw[j8] at hne;clear hy hg hB hl;obtain⟨⟨a,n,cp⟩,i,h⟩:=c;simp only at hi hi0 ha h0 h1 h2 hc2 hm ⊢;subst ha;clear hm hcell;have hk: ∀v,(w.setCell ⟨b,O+2,none⟩ v).cell? (ad.add i.toNat)=some (.int .u8 m):=λv=>(World.cell?_setCell_other w _ _ v (λe=>hne (by rw[<-j8 ad i.toNat,<-e]))).trans hc2
   go_enter Tryz.func77,Tryz.ntmps77
   go_wp2
   go_region
   go_wp2
   go_region
   go_wp2
   go_region
   go_wp2
   go_ret
   exact⟨rfl,rfl,rfl,rfl,CI hb hc (.inl rfl)⟩
  ·cases hy
 ·rename_i hi;obtain rfl:=Option.some.inj hy;obtain⟨⟨a,n,cp⟩,i,h⟩:=c;simp only at hi h0 h1 h2 ⊢;clear hy hB
  go_enter Tryz.func77,Tryz.ntmps77
  go_wp2
  go_region
  go_wp2
  go_region
  go_wp2
  go_ret
  exact⟨rfl,rfl,rfl,rfl,CI hb hc (.inr ⟨rfl,rfl⟩)⟩
end
def WY[dE] :=Dp (P:=Tryz.prog) 77 (by kernel_rfl) (BN Tryz.func77 (by kernel_rfl) rfl) CH TA
def EA[dE](a0:List qh)(a1:Int):Option ((List qh)×Int×Unit):=
 br (decide (a1<=0)) (some (a0,0,())) (br (decide (a1<=256)) ((MB a0).bind λy1=>iteP (y1.1.length=a0.length) (iteP (a1=0) none (some (y1.1,(Int.tmod y1.2.1 a1),()))) none) ((MB a0).bind λy2=>iteP (y2.1.length=a0.length) ((MB y2.1).bind λy3=>iteP (y3.1.length=y2.1.length) ((MB y3.1).bind λy4=>iteP (y4.1.length=y3.1.length) ((MB y4.1).bind λy5=>iteP (y5.1.length=y4.1.length) (iteP (a1=0) none (some (y5.1,(Int.tmod (IntKind.wrap .i64 ((IntKind.wrap .i64 ((IntKind.wrap .i64 ((IntKind.wrap .i64 (y2.2.1*16777216))+(IntKind.wrap .i64 (y3.2.1*65536))))+(IntKind.wrap .i64 (y4.2.1*256))))+y5.2.1)) a1),()))) none) none) none) none))
def Lk[dE] :=Zp 26 Tryz.f26 (.st .cur) Ui KJ (λl x=>EA l x.1) [WY] [] (by kernel_rfl) λl x=>by simp only[EA,tm,-eq_self];kernel_rfl
abbrev Ph:LX:=⟨⟨[(0,.cl (.pt 0 3)),YS,Ma],[],[.st .cur,.st .place],1,22⟩,[(.ext 0,⟨[YS],[],[.st .cur,.st .place],1,22⟩)],[],[0,3,4],[3]⟩
def K5[dE](s:Yb×Unit×List qh×List uN×Unit):Ph.R:=
 br (decide (s.1.2.2.1<5)) ((EA s.2.2.1 4).bind λy4=>iteP (y4.1.length=s.2.2.1.length) ((EA y4.1 4).bind λy5=>iteP (y5.1.length=y4.1.length) ((EA y5.1 4).bind λy6=>iteP (y6.1.length=y5.1.length) (iteP ((s.2.2.2.1++([(⟨y4.2.1,(IntKind.wrap .i64 (1+y5.2.1)),y6.2.1⟩:uN)]:List uN)).length*24<=2 ^ 40) (some (.inl (((),(),(IntKind.wrap .i64 (s.1.2.2.1+1)),()),(()),y6.1,(s.2.2.2.1++([(⟨y4.2.1,(IntKind.wrap .i64 (1+y5.2.1)),y6.2.1⟩:uN)]:List uN)),()))) none) none) none) none) (some (.inr (((),()),(()),s.2.2)))
def Tm[dE] :=nw K5
def Tx[dE] :=Ie Tryz.f96 [0] Ph K5 [Lk] [] (by kernel_rfl) λs=>by simp only[K5,tm,-eq_self];kernel_rfl
def Ly[dE](a0:List qh):Option ((List qh)×(List uN)×Unit):=
 (Tm (((),(),0,()),(()),a0,([]:List uN),())).bind λe7=>some e7.2.2
def U6[dE] :=Zp 96 Tryz.f96 (.st .cur) [] [.ls (.st .place)] (λl _=>Ly l) [] [Tx] (by kernel_rfl) λl x=>by simp only[Ly,tm];kernel_rfl
def Ei(a0:Int)(a1:Int)(a2:Int):Option (Bool×Unit):=
 br (decide (a0≥a1)) (some ((decide (a0<=a2)),())) (some (false,()))
def Fb[dE] :=E0 57 Tryz.f57 W3 [.b] (λx=>Ei x.1 x.2.1 x.2.2.1) [] [] (by kernel_rfl) λx=>by simp only[Ei,tm];kernel_rfl
abbrev Ov:LX:=⟨⟨[Rb,M9],[],[],0,38⟩,[(.ret,⟨[Rb,OK],[],[],0,38⟩),(.ext 0,⟨[Rb,NL],[],[],0,38⟩)],[],[0,3],[0,2]⟩
def Hl(s: (List uN×Int×Unit)×Unit×Unit):Ov.R:=
 br (decide (s.1.2.1< (s.1.1.length:Int))) (iteP (0<=s.1.2.1) ((s.1.1[s.1.2.1.toNat]?).bind λx3=>(Ei x3.rack 0 9).bind λy4=>br (!y4.1) (some (.inr (.inl ((s.1.1,false,()),(()),(()))))) (iteP (0<=s.1.2.1) ((s.1.1[s.1.2.1.toNat]?).bind λx5=>(Ei x5.capacity 0 9).bind λy6=>br (!y6.1) (some (.inr (.inl ((s.1.1,false,()),(()),(()))))) (iteP (0<=s.1.2.1) ((s.1.1[s.1.2.1.toNat]?).bind λx7=>(Ei x7.load 0 99).bind λy8=>br (!y8.1) (some (.inr (.inl ((s.1.1,false,()),(()),(()))))) (some (.inl ((s.1.1,(IntKind.wrap .i64 (s.1.2.1+1)),()),(()),(()))))) none)) none)) none) (some (.inr (.inr ((s.1.1,(),()),(()),(())))))
def Ml:=nw Hl
def Sc[dE] :=Ie Tryz.f125 [0] Ov Hl [Fb] [] (by kernel_rfl) λs=>by simp only[Hl,tm];kernel_rfl
def ES(a0:List uN):Option (Bool×Unit):=
 (Ml ((a0,0,()),(()),(()))).bind λe9=>Sum.elim (λe9_0=>some e9_0.1.2) (λe9_1=>some (((e9_1.1.1.length:Int)==5),())) e9
def KF[dE] :=E0 125 Tryz.f125 W4 [.b] (λx=>ES x.1) [] [Sc] (by kernel_rfl) λx=>by simp only[ES,tm];kernel_rfl
def KA(a0:Int):Option (qj×Unit):=
 (Ei a0 1 2).bind λy1=>br (!y1.1) (some ((⟨true,true,1,0,(⟨0,0,([]:List Int),([]:List Int)⟩:nE),0,([]:List rj),0,([]:List rj)⟩:qj),())) (some ((⟨true,true,a0,0,(⟨0,0,([]:List Int),([]:List Int)⟩:nE),0,([]:List rj),0,([]:List rj)⟩:qj),()))
def TW[dE] :=E0 161 Tryz.f161 Ui [.st .server] (λx=>KA x.1) [Fb] [] (by kernel_rfl) λx=>by simp only[KA,tm];kernel_rfl
abbrev NV:LX:=⟨⟨[Oc,Ul,Ma],[MP,Y4],aai,0,25⟩,[(.ext 0,⟨[Oc,Ul],[MP,Y4],aai,0,25⟩)],[.b 1 1 (.st .server)],[2,3,4],[2,3]⟩
def Il(s:Yb×(Mq×Mq×Unit)×List qj×List Int×List uN×Unit):NV.R:=
 br (decide (s.1.2.2.1<5)) ((KA 1).bind λy34=>iteP ((s.2.2.1++([y34.1]:List qj)).length*152<=2 ^ 40) (some (.inl (((),(),(IntKind.wrap .i64 (s.1.2.2.1+1)),()),s.2.1,(s.2.2.1++([y34.1]:List qj)),s.2.2.2))) none) (some (.inr (((),(),()),s.2)))
def Q9:=nw Il
def Rx[dE] :=Ie Tryz.f95 [0] NV Il [TW] [] (by kernel_rfl) λs=>by simp only[Il,tm];kernel_rfl
def HS(a0:List uN):Option (qg×Unit):=
 (ES a0).bind λy1=>br (!y1.1) (some ((⟨0,([]:List qj),([]:List Int),(⟨([]:List nE),0⟩:jY),0,(⟨0,0,0⟩:uK),([]:List uN)⟩:qg),())) (iteP (0<=(5:Int)/\(5:Int)=5/\5*((8:Nat):Int)<=2 ^ 40) (iteP ((([]:List uN)++a0).length*24<=2 ^ 40) ((Q9 (((),(),0,()),((0,(),(),(),0,0,0,0,0,(),()),(0,(),(),(),0,3,0,0,0,(),()),()),([]:List qj),(List.replicate (5:Int).toNat (0:Int)),(([]:List uN)++a0),())).bind λe35=>some ((⟨e35.2.1.2.1.1,e35.2.2.1,e35.2.2.2.1,(⟨([]:List nE),e35.2.1.2.1.2.2.2.2.1⟩:jY),e35.2.1.2.1.2.2.2.2.2.1,(⟨e35.2.1.2.1.2.2.2.2.2.2.1,e35.2.1.2.1.2.2.2.2.2.2.2.1,e35.2.1.2.1.2.2.2.2.2.2.2.2.1⟩:uK),e35.2.2.2.2.1⟩:qg),())) none) none)
def S9[dE] :=E0 95 Tryz.f95 W4 [.st .cluster] (λx=>HS x.1) [KF] [Rx] (by kernel_rfl) λx=>by simp only[HS,tm,-eq_self];kernel_rfl
def KD[dE](a0:List qh)(a1:Int):Option ((List qh)×Bool×Unit):=
 (EA a0 a1).bind λy1=>iteP (y1.1.length=a0.length) (some (y1.1,(y1.2.1==0),())) none
def O6[dE] :=Zp 142 Tryz.f142 (.st .cur) Ui [.b] (λl x=>KD l x.1) [Lk] [] (by kernel_rfl) λl x=>by simp only[KD,tm,-eq_self];kernel_rfl
def It[dE](a0:List qh)(a1:List Int):Option ((List qh)×Int×Unit):=
 (EA a0 (a1.length:Int)).bind λy1=>iteP (y1.1.length=a0.length) (iteP (0<=y1.2.1) ((a1[y1.2.1.toNat]?).bind λx2=>some (y1.1,x2,())) none) none
def NA[dE] :=Zp 71 Tryz.f71 (.st .cur) U9 KJ (λl x=>It l x.1) [Lk] [] (by kernel_rfl) λl x=>by simp only[It,tm,-eq_self];kernel_rfl
def Pp[dE](a0:List qh):Option ((List qh)×Op×Unit):=
 (EA a0 3).bind λy1=>iteP (y1.1.length=a0.length) ((EA y1.1 5).bind λy2=>iteP (y2.1.length=y1.1.length) ((EA y2.1 3).bind λy3=>iteP (y3.1.length=y2.1.length) ((EA y3.1 10).bind λy4=>iteP (y4.1.length=y3.1.length) ((KD y4.1 3).bind λy5=>iteP (y5.1.length=y4.1.length) (br y5.2.1 ((It y5.1 ([0,0,1,5,9]:List Int)).bind λy6=>iteP (y6.1.length=y5.1.length) (some (y6.1,(⟨y1.2.1,(IntKind.wrap .i64 (1+y2.2.1)),2,y3.2.1,y6.2.1,y4.2.1⟩:Op),())) none) (some (y5.1,(⟨y1.2.1,(IntKind.wrap .i64 (1+y2.2.1)),1,y3.2.1,0,y4.2.1⟩:Op),()))) none) none) none) none) none
def Zz[dE] :=Zp 78 Tryz.f78 (.st .cur) [] [.st .op] (λl _=>Pp l) [Lk,O6,NA] [] (by kernel_rfl) λl x=>by simp only[Pp,tm,-eq_self];kernel_rfl
def Lw[dE](a0:List qh):Option ((List qh)×wN×Unit):=
 (EA a0 5).bind λy1=>iteP (y1.1.length=a0.length) ((EA y1.1 24).bind λy2=>iteP (y2.1.length=y1.1.length) (br (y2.2.1==0) ((EA y2.1 20).bind λy3=>iteP (y3.1.length=y2.1.length) (some (y3.1,(⟨3,y1.2.1,0,(IntKind.wrap .i64 (1+y3.2.1)),(⟨0,0,0,0,0,0⟩:Op)⟩:wN),())) none) (br (y2.2.1==1) ((EA y2.1 2).bind λy4=>iteP (y4.1.length=y2.1.length) ((EA y4.1 3).bind λy5=>iteP (y5.1.length=y4.1.length) (some (y5.1,(⟨4,0,y4.2.1,(IntKind.wrap .i64 (1+y5.2.1)),(⟨0,0,0,0,0,0⟩:Op)⟩:wN),())) none) none) (br (y2.2.1==2) (some (y2.1,(⟨5,0,0,0,(⟨0,0,0,0,0,0⟩:Op)⟩:wN),())) (br (y2.2.1==3) (some (y2.1,(⟨6,y1.2.1,0,0,(⟨0,0,0,0,0,0⟩:Op)⟩:wN),())) (let j23 (p6:Bool):Option ((List qh)×wN×Unit):=br p6 (some (y2.1,(⟨7,y1.2.1,0,0,(⟨0,0,0,0,0,0⟩:Op)⟩:wN),())) (br (y2.2.1==6) ((KD y2.1 3).bind λy7=>iteP (y7.1.length=y2.1.length) (br y7.2.1 (some (y7.1,(⟨8,y1.2.1,0,0,(⟨0,0,0,0,0,0⟩:Op)⟩:wN),())) ((Pp y7.1).bind λy26=>iteP (y26.1.length=y7.1.length) (some (y26.1,(⟨1,y1.2.1,0,0,y26.2.1⟩:wN),())) none)) none) (br (y2.2.1==7) ((It y2.1 ([0,0,1]:List Int)).bind λy8=>iteP (y8.1.length=y2.1.length) (some (y8.1,(⟨9,y1.2.1,0,y8.2.1,(⟨0,0,0,0,0,0⟩:Op)⟩:wN),())) none) (br (y2.2.1==8) ((EA y2.1 3).bind λy9=>iteP (y9.1.length=y2.1.length) (some (y9.1,(⟨10,0,0,(IntKind.wrap .i64 (1+y9.2.1)),(⟨0,0,0,0,0,0⟩:Op)⟩:wN),())) none) (let j22 (p10:Bool):Option ((List qh)×wN×Unit):=br p10 ((EA y2.1 12).bind λy11=>iteP (y11.1.length=y2.1.length) (some (y11.1,(⟨11,0,0,y11.2.1,(⟨0,0,0,0,0,0⟩:Op)⟩:wN),())) none) (br (y2.2.1==11) ((EA y2.1 5).bind λy12=>iteP (y12.1.length=y2.1.length) ((EA y12.1 4).bind λy13=>iteP (y13.1.length=y12.1.length) (some (y13.1,(⟨12,y1.2.1,y12.2.1,(IntKind.wrap .i64 (1+y13.2.1)),(⟨0,0,0,0,0,0⟩:Op)⟩:wN),())) none) none) (br (y2.2.1==12) (some (y2.1,(⟨13,y1.2.1,0,0,(⟨0,0,0,0,0,0⟩:Op)⟩:wN),())) (br (y2.2.1==13) (some (y2.1,(⟨14,y1.2.1,0,0,(⟨0,0,0,0,0,0⟩:Op)⟩:wN),())) (br (y2.2.1==14) (some (y2.1,(⟨15,y1.2.1,0,0,(⟨0,0,0,0,0,0⟩:Op)⟩:wN),())) (let j21 (p14:Bool):Option ((List qh)×wN×Unit):=br p14 ((EA y2.1 3).bind λy15=>iteP (y15.1.length=y2.1.length) ((EA y15.1 20).bind λy16=>iteP (y16.1.length=y15.1.length) (some (y16.1,(⟨16,0,(IntKind.wrap .i64 (1+y15.2.1)),(IntKind.wrap .i64 (1+y16.2.1)),(⟨0,0,0,0,0,0⟩:Op)⟩:wN),())) none) none) (br (y2.2.1==17) ((EA y2.1 3).bind λy19=>iteP (y19.1.length=y2.1.length) (some (y19.1,(⟨2,y1.2.1,0,y19.2.1,(⟨0,0,0,0,0,0⟩:Op)⟩:wN),())) none) (br (y2.2.1==18) ((EA y2.1 3).bind λy20=>iteP (y20.1.length=y2.1.length) (some (y20.1,(⟨2,y1.2.1,0,y20.2.1,(⟨0,0,0,0,0,0⟩:Op)⟩:wN),())) none) ((Pp y2.1).bind λy27=>iteP (y27.1.length=y2.1.length) (some (y27.1,(⟨1,y1.2.1,0,0,y27.2.1⟩:wN),())) none)));br (y2.2.1==15) (j21 true) (j21 (y2.2.1==16)))))));br (y2.2.1==9) (j22 true) (j22 (y2.2.1==10))))));br (y2.2.1==4) (j23 true) (j23 (y2.2.1==5))))))) none) none
def U4[dE] :=Zp 162 Tryz.f162 (.st .cur) [] [.st .event] (λl _=>Lw l) [Lk,O6,NA,Zz] [] (by kernel_rfl) λl x=>by simp only[Lw,tm,-eq_self];kernel_rfl
abbrev OC:LX:=⟨⟨[(0,.cl (.pt 0 3)),YT,NM],[],[.st .cur,.st .event],1,48⟩,[(.ext 0,⟨[YT],[],[.st .cur,.st .event],1,48⟩)],[],[0,5,6],[5]⟩
def IP[dE](s:Yb×Unit×List qh×List wN×Unit):OC.R:=
 br (decide (s.1.2.2.1>0)) ((Lw s.2.2.1).bind λy21=>iteP (y21.1.length=s.2.2.1.length) (br (y21.2.1.kind==1) ((KD y21.1 3).bind λy22=>iteP (y22.1.length=y21.1.length) (br (!y22.2.1) ((It y22.1 ([0,0,1]:List Int)).bind λy23=>iteP (y23.1.length=y22.1.length) (iteP ((s.2.2.2.1++([(⟨y21.2.1.kind,y23.2.1,y21.2.1.other,y21.2.1.n,y21.2.1.op⟩:wN)]:List wN)).length*80<=2 ^ 40) (some (.inl (((),(),(IntKind.wrap .i64 (s.1.2.2.1-1)),()),(()),y23.1,(s.2.2.2.1++([(⟨y21.2.1.kind,y23.2.1,y21.2.1.other,y21.2.1.n,y21.2.1.op⟩:wN)]:List wN)),()))) none) none) (iteP ((s.2.2.2.1++([y21.2.1]:List wN)).length*80<=2 ^ 40) (some (.inl (((),(),(IntKind.wrap .i64 (s.1.2.2.1-1)),()),(()),y22.1,(s.2.2.2.1++([y21.2.1]:List wN)),()))) none)) none) (iteP ((s.2.2.2.1++([y21.2.1]:List wN)).length*80<=2 ^ 40) (some (.inl (((),(),(IntKind.wrap .i64 (s.1.2.2.1-1)),()),(()),y21.1,(s.2.2.2.1++([y21.2.1]:List wN)),()))) none)) none) (some (.inr (((),()),(()),s.2.2)))
def Kq[dE] :=nw IP
def Sq[dE] :=Ie Tryz.f97 [0] OC IP [O6,U4,NA] [] (by kernel_rfl) λs=>by simp only[IP,tm,-eq_self];kernel_rfl
def KE[dE](a0:List qh)(a1:Int):Option ((List qh)×(List wN)×Unit):=
 (EA a0 3).bind λy1=>iteP (y1.1.length=a0.length) ((EA y1.1 20).bind λy2=>iteP (y2.1.length=y1.1.length) ((KD y2.1 2).bind λy3=>iteP (y3.1.length=y2.1.length) (br y3.2.1 ((EA y3.1 (IntKind.wrap .i64 (a1+1))).bind λy17=>iteP (y17.1.length=y3.1.length) ((Kq (((),(),y17.2.1,()),(()),y17.1,([(⟨4,0,1,2,(⟨0,0,0,0,0,0⟩:Op)⟩:wN),(⟨5,0,0,0,(⟨0,0,0,0,0,0⟩:Op)⟩:wN)]:List wN),())).bind λe28=>some e28.2.2) none) ((EA y3.1 (IntKind.wrap .i64 (a1+1))).bind λy29=>iteP (y29.1.length=y3.1.length) ((Kq (((),(),y29.2.1,()),(()),y29.1,([(⟨16,0,(IntKind.wrap .i64 (1+y1.2.1)),(IntKind.wrap .i64 (1+y2.2.1)),(⟨0,0,0,0,0,0⟩:Op)⟩:wN)]:List wN),())).bind λe40=>some e40.2.2) none)) none) none) none
def Uc[dE] :=Zp 97 Tryz.f97 (.st .cur) Ui [.ls (.st .event)] (λl x=>KE l x.1) [Lk,O6] [Sq] (by kernel_rfl) λl x=>by simp only[KE,tm,-eq_self];kernel_rfl
def N6[dE](a0:Hd):Option (qg×(List wN)×Unit):=
 (SN a0).bind λy1=>(Ly y1.1).bind λy2=>iteP (y2.1.length=y1.1.length) ((HS y2.2.1).bind λy3=>(KE y2.1 24).bind λy4=>iteP (y4.1.length=y2.1.length) (some (y3.1,y4.2.1,())) none) none
def Wi[dE] :=E0 37 Tryz.f37 [.ty (.h)] aaf (λx=>N6 x.1) [X8,U6,S9,Uc] [] (by kernel_rfl) λx=>by simp only[N6,tm,-eq_self];kernel_rfl
def HZ[dE](a0:Hd):Option (qg×(List wN)×Unit):=
 (N6 a0).bind λy1=>some (y1.1,y1.2.1,())
def Qf[dE] :=E0 11 Tryz.f11 [.ty (.h)] aaf (λx=>HZ x.1) [Wi] [] (by kernel_rfl) λx=>by simp only[HZ,tm];kernel_rfl
def GW(a0:nE):Option (nE×Unit):=
 iteP ((([]:List Int)++a0.replicas).length*8<=2 ^ 40) (iteP ((([]:List Int)++a0.witnesses).length*8<=2 ^ 40) (some ((⟨a0.epoch,a0.primary,(([]:List Int)++a0.replicas),(([]:List Int)++a0.witnesses)⟩:nE),())) none) none
def NB[dE] :=E0 130 Tryz.f130 Wk [.st .config] (λx=>GW x.1) [] [] (by kernel_rfl) λx=>by simp only[GW,tm];kernel_rfl
def FC(a0:List rj):Option ((List rj)×Unit):=
 iteP ((([]:List rj)++a0).length*56<=2 ^ 40) (some ((([]:List rj)++a0),())) none
def IV[dE] :=E0 60 Tryz.f60 Qq Vb (λx=>FC x.1) [] [] (by kernel_rfl) λx=>by simp only[FC,tm];kernel_rfl
def G8(a0:qj):Option (qj×Unit):=
 (GW a0.config).bind λy1=>(FC a0.log).bind λy2=>(FC a0.learned).bind λy3=>some ((⟨a0.up,a0.intact,a0.version,a0.epoch,y1.1,a0.first,y2.1,a0.commit,y3.1⟩:qj),())
def Py[dE] :=E0 86 Tryz.f86 Ug [.st .server] (λx=>G8 x.1) [NB,IV] [] (by kernel_rfl) λx=>by simp only[G8,tm];kernel_rfl
abbrev P7:LX:=⟨⟨[Jq,NJ,W8,Ma],[Vc,[.em,.int .i64],Y5],[.st .config],0,29⟩,[(.ext 0,⟨[Oc,Ul],[[.em,.int .i64],Y5],[.st .config],0,29⟩)],[.b 2 0 (.st .config)],[1,2,3,4],[2,3]⟩
def Jf(s:ZB×(ZC×Va×Va×Unit)×List nE×Unit):P7.R:=
 br (decide (s.1.2.2.2.1< (s.2.1.1.1.length:Int))) (iteP (0<=s.1.2.2.2.1) ((s.2.1.1.1[s.1.2.2.2.1.toNat]?).bind λx14=>(GW x14).bind λy15=>iteP ((s.2.2.1++([y15.1]:List nE)).length*64<=2 ^ 40) (some (.inl (((),(),(),(IntKind.wrap .i64 (s.1.2.2.2.1+1)),()),s.2.1,(s.2.2.1++([y15.1]:List nE)),()))) none) none) (some (.inr (((),(),()),s.2.1.2,s.2.2)))
def P1:=nw Jf
def Uv[dE] :=Ie Tryz.f87 [0] P7 Jf [NB] [] (by kernel_rfl) λs=>by simp only[Jf,tm];kernel_rfl
def J1(a0:jY):Option (jY×Unit):=
 (P1 (((),(),(),0,()),((a0.configs,a0.activated,()),((),0,()),((),a0.activated,()),()),([]:List nE),())).bind λe16=>some ((⟨e16.2.2.1,e16.2.1.2.1.2.1⟩:jY),())
def Px[dE] :=E0 87 Tryz.f87 Wl [.st .masterLog] (λx=>J1 x.1) [] [Uv] (by kernel_rfl) λx=>by simp only[J1,tm];kernel_rfl
abbrev P8:LX:=⟨⟨[Jq,NJ,W8,Ma],[Jr,MP,Y6],[.st .server],0,42⟩,[(.ext 0,⟨[Jq,NJ,W8],[Jr,MP,Y6],[.st .server],0,42⟩)],[.b 2 1 (.st .server)],[1,2,3,4],[1,2,3]⟩
def Jg(s:ZB×(MO×Mq×(Int×Unit×List Int×List nE×Int×Int×Int×Int×Int×List uN×Unit)×Unit)×List qj×Unit):P8.R:=
 br (decide (s.1.2.2.2.1< (s.2.1.1.2.1.length:Int))) (iteP (0<=s.1.2.2.2.1) ((s.2.1.1.2.1[s.1.2.2.2.1.toNat]?).bind λx56=>(G8 x56).bind λy57=>iteP ((s.2.2.1++([y57.1]:List qj)).length*152<=2 ^ 40) (some (.inl (((),(),(),(IntKind.wrap .i64 (s.1.2.2.2.1+1)),()),s.2.1,(s.2.2.1++([y57.1]:List qj)),()))) none) none) (some (.inr (((),(),(),()),s.2)))
def P2:=nw Jg
def Uw[dE] :=Ie Tryz.f30 [0] P8 Jg [Py] [] (by kernel_rfl) λs=>by simp only[Jg,tm];kernel_rfl
def EN(a0:qg):Option (qg×Unit):=
 (P2 (((),(),(),0,()),((a0.now,a0.servers,a0.sides,a0.master.configs,a0.master.activated,a0.masterUp,a0.lease.epoch,a0.lease.holder,a0.lease.ends,a0.places,()),(0,(),(),(),0,0,0,0,0,(),()),(a0.now,(),a0.sides,a0.master.configs,a0.master.activated,a0.masterUp,a0.lease.epoch,a0.lease.holder,a0.lease.ends,a0.places,()),()),([]:List qj),())).bind λe58=>iteP ((([]:List Int)++e58.2.1.1.2.2.1).length*8<=2 ^ 40) ((J1 (⟨e58.2.1.1.2.2.2.1,e58.2.1.1.2.2.2.2.1⟩:jY)).bind λy59=>iteP ((([]:List uN)++e58.2.1.1.2.2.2.2.2.2.2.2.2.1).length*24<=2 ^ 40) (some ((⟨e58.2.1.2.2.1.1,e58.2.2.1,(([]:List Int)++e58.2.1.1.2.2.1),y59.1,e58.2.1.2.2.1.2.2.2.2.2.1,(⟨e58.2.1.2.2.1.2.2.2.2.2.2.1,e58.2.1.2.2.1.2.2.2.2.2.2.2.1,e58.2.1.2.2.1.2.2.2.2.2.2.2.2.1⟩:uK),(([]:List uN)++e58.2.1.1.2.2.2.2.2.2.2.2.2.1)⟩:qg),())) none) none
def Fi[dE] :=E0 30 Tryz.f30 R5 [.st .cluster] (λx=>EN x.1) [Px] [Uw] (by kernel_rfl) λx=>by simp only[EN,tm];kernel_rfl
abbrev NR:LX:=⟨⟨[NN,M9],[],[],0,32⟩,[(.ret,⟨[OK],[],[],0,32⟩),(.ext 0,⟨[NL],[],[],0,32⟩)],[],[0,3],[2]⟩
def FT(s:YW×Unit×Unit):NR.R:=
 br (decide (s.1.2.1< (s.1.1.length:Int))) (iteP (0<=s.1.2.1) ((s.1.1[s.1.2.1.toNat]?).bind λx3=>(Ei x3 0 4).bind λy4=>br (!y4.1) (some (.inr (.inl ((false,()),(()),(()))))) (br (decide (s.1.2.1>0)) (iteP (0<=(IntKind.wrap .i64 (s.1.2.1-1))) ((s.1.1[(IntKind.wrap .i64 (s.1.2.1-1)).toNat]?).bind λx5=>iteP (0<=s.1.2.1) ((s.1.1[s.1.2.1.toNat]?).bind λx6=>br (decide (x5≥x6)) (some (.inr (.inl ((false,()),(()),(()))))) (some (.inl ((s.1.1,(IntKind.wrap .i64 (s.1.2.1+1)),()),(()),(()))))) none) none) (some (.inl ((s.1.1,(IntKind.wrap .i64 (s.1.2.1+1)),()),(()),(())))))) none) (some (.inr (.inr (((),()),(()),(())))))
def JJ:=nw FT
def Rs[dE] :=Ie Tryz.f243 [0] NR FT [Fb] [] (by kernel_rfl) λs=>by simp only[FT,tm];kernel_rfl
def Fz(a0:List Int):Option (Bool×Unit):=
 (JJ ((a0,0,()),(()),(()))).bind λe7=>Sum.elim (λe7_0=>some e7_0.1) (λ_=>some (true,())) e7
def Lc[dE] :=E0 243 Tryz.f243 U9 [.b] (λx=>Fz x.1) [] [Rs] (by kernel_rfl) λx=>by simp only[Fz,tm];kernel_rfl
abbrev Ow:LX:=⟨⟨[NN,KI,Na],[],[],0,18⟩,[(.ret,⟨[Om],[],[],0,18⟩),(.ext 0,⟨[O9],[],[],0,18⟩)],[],[0,1,5],[4]⟩
def H5(s:YX×Unit×Unit):Ow.R:=
 br (decide (s.1.2.2.1< (s.1.1.length:Int))) (iteP (0<=s.1.2.2.1) ((s.1.1[s.1.2.2.1.toNat]?).bind λx4=>br (x4==s.1.2.1) (some (.inr (.inl ((true,()),(()),(()))))) (some (.inl ((s.1.1,s.1.2.1,(IntKind.wrap .i64 (s.1.2.2.1+1)),()),(()),(()))))) none) (some (.inr (.inr (((),()),(()),(())))))
def Mm:=nw H5
def Sf[dE] :=Ie Tryz.f194 [0] Ow H5 [] [] (by kernel_rfl) λs=>by simp only[H5,tm];kernel_rfl
def EZ(a0:List Int)(a1:Int):Option (Bool×Unit):=
 (Mm ((a0,a1,0,()),(()),(()))).bind λe5=>Sum.elim (λe5_0=>some e5_0.1) (λ_=>some (false,())) e5
def GM[dE] :=E0 194 Tryz.f194 Uh [.b] (λx=>EZ x.1 x.2.1) [] [Sf] (by kernel_rfl) λx=>by simp only[EZ,tm];kernel_rfl
abbrev SB:LX:=⟨⟨[NN,KI,Na],[],[],0,47⟩,[(.ext 0,⟨[NN,KI,Na],[],[],0,47⟩)],[],[0,1,5],[0,1,5]⟩
def IB(s:YX×Unit×Unit):SB.R:=
 br (decide (s.1.2.2.1< (s.1.1.length:Int))) (iteP (0<=s.1.2.2.1) ((s.1.1[s.1.2.2.1.toNat]?).bind λx4=>br (decide (x4<s.1.2.1)) (some (.inl ((s.1.1,s.1.2.1,(IntKind.wrap .i64 (s.1.2.2.1+1)),()),(()),(())))) (some (.inr (s.1,(()),(()))))) none) (some (.inr (s.1,(()),(()))))
def PD:=nw IB
def Wt[dE] :=Ie Tryz.f245 [0] SB IB [] [] (by kernel_rfl) λs=>by simp only[IB,tm];kernel_rfl
def Ig(a0:List Int)(a1:Int):Option ((List Int)×Unit):=
 (PD ((a0,a1,0,()),(()),(()))).bind λe5=>let j7:Option ((List Int)×Unit):=iteP (0<=(0:Int)/\(0:Int)<=e5.1.2.2.1/\e5.1.2.2.1<=(e5.1.1.length:Int)) (iteP ((([]:List Int)++((e5.1.1.drop (0:Int).toNat).take (e5.1.2.2.1.toNat-(0:Int).toNat))).length*8<=2 ^ 40) (iteP (((([]:List Int)++((e5.1.1.drop (0:Int).toNat).take (e5.1.2.2.1.toNat-(0:Int).toNat)))++([e5.1.2.1]:List Int)).length*8<=2 ^ 40) (iteP (0<=e5.1.2.2.1/\e5.1.2.2.1<=(e5.1.1.length:Int)/\(e5.1.1.length:Int)<=(e5.1.1.length:Int)) (iteP ((((([]:List Int)++((e5.1.1.drop (0:Int).toNat).take (e5.1.2.2.1.toNat-(0:Int).toNat)))++([e5.1.2.1]:List Int))++((e5.1.1.drop e5.1.2.2.1.toNat).take ((e5.1.1.length:Int).toNat-e5.1.2.2.1.toNat))).length*8<=2 ^ 40) (some ((((([]:List Int)++((e5.1.1.drop (0:Int).toNat).take (e5.1.2.2.1.toNat-(0:Int).toNat)))++([e5.1.2.1]:List Int))++((e5.1.1.drop e5.1.2.2.1.toNat).take ((e5.1.1.length:Int).toNat-e5.1.2.2.1.toNat))),())) none) none) none) none) none;br (decide (e5.1.2.2.1< (e5.1.1.length:Int))) (iteP (0<=e5.1.2.2.1) ((e5.1.1[e5.1.2.2.1.toNat]?).bind λx6=>br (x6==e5.1.2.1) (iteP ((([]:List Int)++e5.1.1).length*8<=2 ^ 40) (some ((([]:List Int)++e5.1.1),())) none) (j7)) none) (j7)
def N9[dE] :=E0 245 Tryz.f245 Uh Nb (λx=>Ig x.1 x.2.1) [] [Wt] (by kernel_rfl) λx=>by simp only[Ig,tm];kernel_rfl
abbrev Mc:LX:=⟨⟨[NN,Pa,MN,NM],[],Iv,0,27⟩,[(.ext 0,⟨[MN],[],Iv,0,27⟩)],[],[0,1,5,6],[5]⟩
def Gv(s:ZD×Unit×List Int×Unit):Mc.R:=
 br (decide (s.1.2.2.2.1< (s.1.1.length:Int))) (iteP (0<=s.1.2.2.2.1) ((s.1.1[s.1.2.2.2.1.toNat]?).bind λx5=>(EZ s.1.2.1 x5).bind λy6=>br y6.1 (iteP (0<=s.1.2.2.2.1) ((s.1.1[s.1.2.2.2.1.toNat]?).bind λx7=>(Ig s.2.2.1 x7).bind λy8=>some (.inl ((s.1.1,s.1.2.1,(),(IntKind.wrap .i64 (s.1.2.2.2.1+1)),()),(()),y8.1,()))) none) (some (.inl ((s.1.1,s.1.2.1,(),(IntKind.wrap .i64 (s.1.2.2.2.1+1)),()),(()),s.2.2)))) none) (some (.inr (((),()),(()),s.2.2)))
def L8:=nw Gv
def Pj[dE] :=Ie Tryz.f244 [0] Mc Gv [GM,N9] [] (by kernel_rfl) λs=>by simp only[Gv,tm];kernel_rfl
def GD(a0:List Int)(a1:List Int):Option ((List Int)×Unit):=
 (L8 ((a0,a1,(),0,()),(()),([]:List Int),())).bind λe10=>some e10.2.2
def KN[dE] :=E0 244 Tryz.f244 Uj Nb (λx=>GD x.1 x.2.1) [] [Pj] (by kernel_rfl) λx=>by simp only[GD,tm];kernel_rfl
def Eg(a0:nE):Option (Bool×Unit):=
 (Ei a0.epoch 1 20).bind λy1=>br y1.1 ((Fz a0.replicas).bind λy2=>br y2.1 ((Fz a0.witnesses).bind λy3=>br y3.1 ((EZ a0.replicas a0.primary).bind λy4=>br y4.1 ((GD a0.replicas a0.witnesses).bind λy5=>some (((y5.1.length:Int)==0),())) (some (false,()))) (some (false,()))) (some (false,()))) (some (false,()))
def I5[dE] :=E0 191 Tryz.f191 Wk [.b] (λx=>Eg x.1) [Fb,Lc,GM,KN] [] (by kernel_rfl) λx=>by simp only[Eg,tm];kernel_rfl
abbrev Np:LX:=⟨⟨[Jq,M9],[Vc],[],0,35⟩,[(.ret,⟨[Jq,OK],[Vc],[],0,35⟩),(.ext 0,⟨[Jq,NL],[Vc],[],0,35⟩)],[],[1,3],[1,2]⟩
def EW(s:Va×(ZC×Unit)×Unit):Np.R:=
 br (decide (s.1.2.1< (s.2.1.1.1.length:Int))) (iteP (0<=s.1.2.1) ((s.2.1.1.1[s.1.2.1.toNat]?).bind λx4=>(Eg x4).bind λy5=>br (!y5.1) (some (.inr (.inl (((),false,()),s.2.1,(()))))) (iteP (0<=s.1.2.1) ((s.2.1.1.1[s.1.2.1.toNat]?).bind λx6=>br (!(x6.epoch==(IntKind.wrap .i64 (s.1.2.1+1)))) (some (.inr (.inl (((),false,()),s.2.1,(()))))) (some (.inl (((),(IntKind.wrap .i64 (s.1.2.1+1)),()),s.2.1,(()))))) none)) none) (some (.inr (.inr (((),(),()),s.2.1,(())))))
def H0:=nw EW
def Qw[dE] :=Ie Tryz.f123 [0] Np EW [I5] [] (by kernel_rfl) λs=>by simp only[EW,tm];kernel_rfl
def Eo(a0:jY):Option (Bool×Unit):=
 (H0 (((),0,()),((a0.configs,a0.activated,()),()),(()))).bind λe7=>Sum.elim (λe7_0=>some e7_0.1.2) (λe7_1=>(Ei e7_1.2.1.1.2.1 0 (e7_1.2.1.1.1.length:Int)).bind λy8=>some (y8.1,())) e7
def Km[dE] :=E0 123 Tryz.f123 Wl [.b] (λx=>Eo x.1) [Fb] [Qw] (by kernel_rfl) λx=>by simp only[Eo,tm];kernel_rfl
def Fm(a0:jY)(a1:Int):Option (nE×Bool×Unit):=
 (Eo a0).bind λy1=>br (!y1.1) (some ((⟨0,0,([]:List Int),([]:List Int)⟩:nE),false,())) ((Ei a1 1 (a0.configs.length:Int)).bind λy2=>br (!y2.1) (some ((⟨0,0,([]:List Int),([]:List Int)⟩:nE),false,())) (iteP (0<=(IntKind.wrap .i64 (a1-1))) ((a0.configs[(IntKind.wrap .i64 (a1-1)).toNat]?).bind λx3=>(GW x3).bind λy4=>some (y4.1,true,())) none))
def OH[dE] :=E0 62 Tryz.f62 W5 Wm (λx=>Fm x.1 x.2.1) [Km,Fb,NB] [] (by kernel_rfl) λx=>by simp only[Fm,tm];kernel_rfl
def Ef(a0:jY):Option (nE×Bool×Unit):=
 (Fm a0 a0.activated).bind λy1=>some (y1.1,y1.2.1,())
def Fx[dE] :=E0 20 Tryz.f20 Wl Wm (λx=>Ef x.1) [OH] [] (by kernel_rfl) λx=>by simp only[Ef,tm];kernel_rfl
abbrev Pe:LX:=⟨⟨[NN,M9],[],[],0,19⟩,[(.ret,⟨[NN,OK],[],[],0,19⟩),(.ext 0,⟨[NN,NL],[],[],0,19⟩)],[],[0,3],[0,2]⟩
def He(s:YW×Unit×Unit):Pe.R:=
 br (decide (s.1.2.1< (s.1.1.length:Int))) (iteP (0<=s.1.2.1) ((s.1.1[s.1.2.1.toNat]?).bind λx3=>(Ei x3 0 3).bind λy4=>br (!y4.1) (some (.inr (.inl ((s.1.1,false,()),(()),(()))))) (some (.inl ((s.1.1,(IntKind.wrap .i64 (s.1.2.1+1)),()),(()),(()))))) none) (some (.inr (.inr ((s.1.1,(),()),(()),(())))))
def M7:=nw He
def Tu[dE] :=Ie Tryz.f122 [0] Pe He [Fb] [] (by kernel_rfl) λs=>by simp only[He,tm];kernel_rfl
def Fj(a0:List Int):Option (Bool×Unit):=
 (M7 ((a0,0,()),(()),(()))).bind λe5=>Sum.elim (λe5_0=>some e5_0.1.2) (λe5_1=>some (((e5_1.1.1.length:Int)==5),())) e5
def M5[dE] :=E0 122 Tryz.f122 U9 [.b] (λx=>Fj x.1) [] [Tu] (by kernel_rfl) λx=>by simp only[Fj,tm];kernel_rfl
def FF(a0:uK):Option (Bool×Unit):=
 br ((a0.epoch==0)&&((a0.holder==0)&&((a0.ends==0)&&true))) (some (true,())) ((Ei a0.epoch 1 20).bind λy1=>br y1.1 ((Ei a0.holder 0 4).bind λy2=>br y2.1 ((Ei a0.ends 1 1049).bind λy3=>some (y3.1,())) (some (false,()))) (some (false,())))
def MD[dE] :=E0 124 Tryz.f124 W6 [.b] (λx=>FF x.1) [Fb] [] (by kernel_rfl) λx=>by simp only[FF,tm];kernel_rfl
def EH(a0:Op):Option (Bool×Unit):=
 (Ei a0.client 0 2).bind λy1=>br (!y1.1) (some (false,())) ((Ei a0.seq 1 99).bind λy2=>br (!y2.1) (some (false,())) ((Ei a0.object 0 2).bind λy3=>br (!y3.1) (some (false,())) ((Ei a0.value 0 9).bind λy4=>br (!y4.1) (some (false,())) (br (a0.kind==1) (br (a0.old==0) (some (true,())) (br (a0.kind==2) ((Ei a0.old 0 9).bind λy5=>some (y5.1,())) (some (false,())))) (br (a0.kind==2) ((Ei a0.old 0 9).bind λy6=>some (y6.1,())) (some (false,())))))))
def KG[dE] :=E0 151 Tryz.f151 VA [.b] (λx=>EH x.1) [Fb] [] (by kernel_rfl) λx=>by simp only[EH,tm];kernel_rfl
abbrev SA:LX:=⟨⟨[Mb,M9],[],[],0,47⟩,[(.ret,⟨[Mb,OK],[],[],0,47⟩),(.ext 0,⟨[Mb,NL],[],[],0,47⟩)],[],[0,3],[0,2]⟩
def Iz(s:YY×Unit×Unit):SA.R:=
 br (decide (s.1.2.1< (s.1.1.length:Int))) (iteP (0<=s.1.2.1) ((s.1.1[s.1.2.1.toNat]?).bind λx3=>(Ei x3.epoch 1 20).bind λy4=>br (!y4.1) (some (.inr (.inl ((s.1.1,false,()),(()),(()))))) (iteP (0<=s.1.2.1) ((s.1.1[s.1.2.1.toNat]?).bind λx5=>(EH x5.op).bind λy6=>br (!y6.1) (some (.inr (.inl ((s.1.1,false,()),(()),(()))))) (br (decide (s.1.2.1>0)) (iteP (0<=(IntKind.wrap .i64 (s.1.2.1-1))) ((s.1.1[(IntKind.wrap .i64 (s.1.2.1-1)).toNat]?).bind λx7=>iteP (0<=s.1.2.1) ((s.1.1[s.1.2.1.toNat]?).bind λx8=>br (decide (x7.epoch>x8.epoch)) (some (.inr (.inl ((s.1.1,false,()),(()),(()))))) (some (.inl ((s.1.1,(IntKind.wrap .i64 (s.1.2.1+1)),()),(()),(()))))) none) none) (some (.inl ((s.1.1,(IntKind.wrap .i64 (s.1.2.1+1)),()),(()),(())))))) none)) none) (some (.inr (.inr ((s.1.1,(),()),(()),(())))))
def MI:=nw Iz
def Ws[dE] :=Ie Tryz.f135 [0] SA Iz [Fb,KG] [] (by kernel_rfl) λs=>by simp only[Iz,tm];kernel_rfl
def EL(a0:List rj):Option (Bool×Unit):=
 (MI ((a0,0,()),(()),(()))).bind λe9=>Sum.elim (λe9_0=>some e9_0.1.2) (λe9_1=>some ((decide ((e9_1.1.1.length:Int)<=16)),())) e9
def Ld[dE] :=E0 135 Tryz.f135 Qq [.b] (λx=>EL x.1) [] [Ws] (by kernel_rfl) λx=>by simp only[EL,tm];kernel_rfl
abbrev MS:LX:=⟨⟨[NN,Pa,Na],[],[],0,26⟩,[(.ret,⟨[Om],[],[],0,26⟩),(.ext 0,⟨[O9],[],[],0,26⟩)],[],[0,1,5],[4]⟩
def GN(s: (List Int×List Int×Int×Unit)×Unit×Unit):MS.R:=
 br (decide (s.1.2.2.1< (s.1.1.length:Int))) (iteP (0<=s.1.2.2.1) ((s.1.1[s.1.2.2.1.toNat]?).bind λx4=>iteP (0<=s.1.2.2.1) ((s.1.2.1[s.1.2.2.1.toNat]?).bind λx5=>br (!(x4==x5)) (some (.inr (.inl ((false,()),(()),(()))))) (some (.inl ((s.1.1,s.1.2.1,(IntKind.wrap .i64 (s.1.2.2.1+1)),()),(()),(()))))) none) none) (some (.inr (.inr (((),()),(()),(())))))
def J7:=nw GN
def PL[dE] :=Ie Tryz.f192 [0] MS GN [] [] (by kernel_rfl) λs=>by simp only[GN,tm];kernel_rfl
def HC(a0:List Int)(a1:List Int):Option (Bool×Unit):=
 br (!((a0.length:Int)==(a1.length:Int))) (some (false,())) ((J7 ((a0,a1,0,()),(()),(()))).bind λe6=>Sum.elim (λe6_0=>some e6_0.1) (λ_=>some (true,())) e6)
def QU[dE] :=E0 192 Tryz.f192 Uj [.b] (λx=>HC x.1 x.2.1) [] [PL] (by kernel_rfl) λx=>by simp only[HC,tm];kernel_rfl
def FY(a0:nE)(a1:nE):Option (Bool×Unit):=
 br (a0.epoch==a1.epoch) (br (a0.primary==a1.primary) ((HC a0.replicas a1.replicas).bind λy1=>br y1.1 ((HC a0.witnesses a1.witnesses).bind λy2=>some (y2.1,())) (some (false,()))) (some (false,()))) (some (false,()))
def JE[dE] :=E0 129 Tryz.f129 YE [.b] (λx=>FY x.1 x.2.1) [QU] [] (by kernel_rfl) λx=>by simp only[FY,tm];kernel_rfl
def Ic(a0:nE):Option (Bool×Unit):=
 (FY a0 (⟨0,0,([]:List Int),([]:List Int)⟩:nE)).bind λy1=>some (y1.1,())
def N8[dE] :=E0 128 Tryz.f128 Wk [.b] (λx=>Ic x.1) [JE] [] (by kernel_rfl) λx=>by simp only[Ic,tm];kernel_rfl
def GS(a0:List rj):Option (Int×Unit):=
 br ((a0.length:Int)==0) (some (0,())) (iteP (0<=(IntKind.wrap .i64 ((a0.length:Int)-1))) ((a0[(IntKind.wrap .i64 ((a0.length:Int)-1)).toNat]?).bind λx1=>some (x1.epoch,())) none)
def Pz[dE] :=E0 127 Tryz.f127 Qq KJ (λx=>GS x.1) [] [] (by kernel_rfl) λx=>by simp only[GS,tm];kernel_rfl
def EJ(a0:nE)(a1:Int):Option (Int×Unit):=
 (Eg a0).bind λy1=>br (!y1.1) (some (0,())) (br (a1==a0.primary) (some (1,())) ((EZ a0.replicas a1).bind λy2=>br y2.1 (some (2,())) ((EZ a0.witnesses a1).bind λy3=>br y3.1 (some (3,())) (some (0,())))))
def MF[dE] :=E0 138 Tryz.f138 YF KJ (λx=>EJ x.1 x.2.1) [I5,GM] [] (by kernel_rfl) λx=>by simp only[EJ,tm];kernel_rfl
def Ed(a0:qj)(a1:Int):Option (Bool×Unit):=
 (Ei a0.version 1 2).bind λy1=>br (!y1.1) (some (false,())) ((Ei a0.epoch 0 20).bind λy2=>br (!y2.1) (some (false,())) ((EL a0.log).bind λy3=>br (!y3.1) (some (false,())) ((EL a0.learned).bind λy4=>br (!y4.1) (some (false,())) ((Ei a0.first 0 16).bind λy5=>br (!y5.1) (some (false,())) ((Ei (IntKind.wrap .i64 (a0.first+(a0.log.length:Int))) 0 16).bind λy6=>br (!y6.1) (some (false,())) ((Ei a0.commit 0 (IntKind.wrap .i64 (a0.first+(a0.log.length:Int)))).bind λy7=>br (!y7.1) (some (false,())) ((Ic a0.config).bind λy8=>br y8.1 (br (a0.first==0) (br ((a0.log.length:Int)==0) (some ((a0.commit==0),())) (some (false,()))) (some (false,()))) (br (!a0.intact) (some (false,())) (br (decide (a0.epoch<a0.config.epoch)) (some (false,())) ((GS a0.log).bind λy9=>br (decide (y9.1>a0.config.epoch)) (some (false,())) ((EJ a0.config a1).bind λy10=>br (y10.1==0) (some (false,())) (br (y10.1==3) (br (decide ((a0.log.length:Int)<=3)) (br ((a0.log.length:Int)==3) (some (true,())) (some ((a0.first==0),()))) (some (false,()))) (some ((a0.first==0),()))))))))))))))
def Nh[dE] :=E0 126 Tryz.f126 Uk [.b] (λx=>Ed x.1 x.2.1) [Fb,Ld,N8,Pz,MF] [] (by kernel_rfl) λx=>by simp only[Ed,tm];kernel_rfl
abbrev LP:LX:=⟨⟨[Jq,M9],[Jr],[],0,123⟩,[(.ret,⟨[OK],[],[],0,123⟩),(.ext 0,⟨[NL],[],[],0,123⟩)],[],[1,3],[2]⟩
def Eh(s:Va×(MO×Unit)×Unit):LP.R:=
 br (decide (s.1.2.1< (s.2.1.1.2.1.length:Int))) (iteP (0<=s.1.2.1) ((s.2.1.1.2.1[s.1.2.1.toNat]?).bind λx18=>(Ed x18 s.1.2.1).bind λy19=>br (!y19.1) (some (.inr (.inl ((false,()),(()),(()))))) (br (decide (x18.epoch>(s.2.1.1.2.2.2.1.length:Int))) (some (.inr (.inl ((false,()),(()),(()))))) ((GS x18.learned).bind λy20=>br (decide (y20.1>s.2.1.1.2.2.2.2.1)) (some (.inr (.inl ((false,()),(()),(()))))) ((Fm (⟨s.2.1.1.2.2.2.1,s.2.1.1.2.2.2.2.1⟩:jY) x18.config.epoch).bind λy21=>(Ic x18.config).bind λy22=>br (!y22.1) (br (!y21.2.1) (some (.inr (.inl ((false,()),(()),(()))))) ((FY y21.1 x18.config).bind λy23=>br (!y23.1) (some (.inr (.inl ((false,()),(()),(()))))) (br (decide (x18.config.epoch>s.2.1.1.2.2.2.2.1)) (some (.inr (.inl ((false,()),(()),(()))))) (some (.inl (((),(IntKind.wrap .i64 (s.1.2.1+1)),()),s.2.1,(()))))))) (some (.inl (((),(IntKind.wrap .i64 (s.1.2.1+1)),()),s.2.1,(())))))))) none) (some (.inr (.inr (((),()),(()),(())))))
def Gl:=nw Eh
def OP[dE] :=Ie Tryz.f56 [0] LP Eh [Nh,Pz,OH,N8,JE] [] (by kernel_rfl) λs=>by simp only[Eh,tm];kernel_rfl
def Ea(a0:qg):Option (Bool×Unit):=
 (Ei a0.now 0 999).bind λy1=>br (!y1.1) (some (false,())) (br (!((a0.servers.length:Int)==5)) (some (false,())) ((Fj a0.sides).bind λy2=>br (!y2.1) (some (false,())) ((Eo a0.master).bind λy3=>br (!y3.1) (some (false,())) ((Ei a0.masterUp 0 3).bind λy4=>br (!y4.1) (some (false,())) ((FF a0.lease).bind λy5=>br (!y5.1) (some (false,())) ((ES a0.places).bind λy6=>br (!y6.1) (some (false,())) (br (decide (a0.lease.epoch>a0.master.activated)) (some (false,())) ((Gl (((),0,()),((a0.now,a0.servers,a0.sides,a0.master.configs,a0.master.activated,a0.masterUp,a0.lease.epoch,a0.lease.holder,a0.lease.ends,a0.places,()),()),(()))).bind λe24=>Sum.elim (λe24_0=>some e24_0.1) (λ_=>some (true,())) e24))))))))
def Ek[dE] :=E0 56 Tryz.f56 R5 [.b] (λx=>Ea x.1) [Fb,M5,Km,MD,KF] [OP] (by kernel_rfl) λx=>by simp only[Ea,tm];kernel_rfl
abbrev KK:LX:=⟨⟨[Jq,Ul,Om,Na],[Jr,Yd],Xo,0,41⟩,[(.ret,⟨[OK,Om],[],[],0,41⟩),(.ext 0,⟨[NL,Om],[],[],0,41⟩)],[],[1,3,4,5],[2,4]⟩
def Ft(s: (Unit×Unit×Bool×Int×Unit)×(MO×PF×Unit)×List Int×List Int×Unit):KK.R:=
 br (decide (s.1.2.2.2.1< (s.2.2.1.length:Int))) (br s.1.2.2.1 (iteP (0<=s.1.2.2.2.1/\s.1.2.2.2.1< (s.2.2.1.length:Int)) ((s.2.2.1[s.1.2.2.2.1.toNat]?).bind λx19=>iteP (0<=x19) ((s.2.1.1.2.1[x19.toNat]?).bind λx20=>br (x20.config.epoch==s.2.1.2.1.1) (some (.inr (.inl ((true,s.1.2.2.1,()),(()),(()))))) (some (.inl (((),(),s.1.2.2.1,(IntKind.wrap .i64 (s.1.2.2.2.1+1)),()),s.2)))) none) none) (some (.inr (.inr (((),s.1.2.2.1,()),(()),(())))))) (some (.inr (.inr (((),s.1.2.2.1,()),(()),(())))))
def Hh:=nw Ft
def N1[dE] :=Ie Tryz.f61 [0] KK Ft [] [] (by kernel_rfl) λs=>by simp only[Ft,tm];kernel_rfl
def FJ(a0:qg):Option (Bool×Unit):=
 (Ef a0.master).bind λy1=>(Ea a0).bind λy2=>br (!y2.1) (some (false,())) ((Hh (((),(),y1.2.1,0,()),((a0.now,a0.servers,a0.sides,a0.master.configs,a0.master.activated,a0.masterUp,a0.lease.epoch,a0.lease.holder,a0.lease.ends,a0.places,()),(y1.1.epoch,y1.1.primary,(),(),()),()),y1.1.replicas,y1.1.witnesses,())).bind λe21=>Sum.elim (λe21_0=>some (e21_0.1.1,())) (λe21_1=>some ((!e21_1.1.2.1),())) e21)
def LB[dE] :=E0 61 Tryz.f61 R5 [.b] (λx=>FJ x.1) [Fx,Ek] [N1] (by kernel_rfl) λx=>by simp only[FJ,tm];kernel_rfl
def MC(a0:Int):Option (Bool×Bool×Bool×Unit):=
 br (a0==1) (some (true,false,false,())) (let j5 (p1:Bool):Option (Bool×Bool×Bool×Unit):=br p1 (some (true,false,false,())) (let j4 (p2:Bool):Option (Bool×Bool×Bool×Unit):=br p2 (some (true,false,true,())) (br (a0==4) (some (false,true,true,())) (br (a0==10) (some (false,false,true,())) (br (a0==11) (some (false,false,true,())) (br (a0==12) (some (true,true,true,())) (br (a0==16) (some (false,true,true,())) (some (false,false,false,())))))));br (a0==2) (j4 true) (br (a0==3) (j4 true) (j4 (a0==9))));br (a0==6) (j5 true) (br (a0==7) (j5 true) (br (a0==8) (j5 true) (br (a0==13) (j5 true) (br (a0==14) (j5 true) (j5 (a0==15)))))))
def Wh[dE] :=E0 163 Tryz.f163 Ui [.b,.b,.b] (λx=>MC x.1) [] [] (by kernel_rfl) λx=>by simp only[MC,tm];kernel_rfl
def Ip(a0:wN):Option (Bool×Unit):=
 (Ei a0.kind 1 16).bind λy1=>br (!y1.1) (some (false,())) ((Ei a0.server 0 4).bind λy2=>br (!y2.1) (some (false,())) ((Ei a0.other 0 4).bind λy3=>br (!y3.1) (some (false,())) ((Ei a0.n 0 999).bind λy4=>br (!y4.1) (some (false,())) ((MC a0.kind).bind λy5=>let j7:Option (Bool×Unit):=br (a0.kind==1) ((EH a0.op).bind λy6=>some (y6.1,())) (some (((a0.op.client==0)&&((a0.op.seq==0)&&((a0.op.kind==0)&&((a0.op.object==0)&&((a0.op.old==0)&&((a0.op.value==0)&&true)))))),()));br (!y5.1) (br (!(a0.server==0)) (some (false,())) (br (!y5.2.1) (br (!(a0.other==0)) (some (false,())) (br (!y5.2.2.1) (br (!(a0.n==0)) (some (false,())) (j7)) (j7))) (br (!y5.2.2.1) (br (!(a0.n==0)) (some (false,())) (j7)) (j7)))) (br (!y5.2.1) (br (!(a0.other==0)) (some (false,())) (br (!y5.2.2.1) (br (!(a0.n==0)) (some (false,())) (j7)) (j7))) (br (!y5.2.2.1) (br (!(a0.n==0)) (some (false,())) (j7)) (j7)))))))
def QV[dE] :=E0 98 Tryz.f98 [.ty (.st .event)] [.b] (λx=>Ip x.1) [Fb,Wh,KG] [] (by kernel_rfl) λx=>by simp only[Ip,tm];kernel_rfl
def Er(a0:qj)(a1:Int):Option (Bool×Unit):=
 (Ed a0 a1).bind λy1=>br y1.1 (br a0.up ((EJ a0.config a1).bind λy2=>br (y2.1==1) (some ((a0.epoch==a0.config.epoch),())) (some (false,()))) (some (false,()))) (some (false,()))
def Iu[dE] :=E0 152 Tryz.f152 Uk [.b] (λx=>Er x.1 x.2.1) [Nh,MF] [] (by kernel_rfl) λx=>by simp only[Er,tm];kernel_rfl
abbrev Rm:LX:=⟨⟨[Mb,KI,Pb,OL],[],[],0,33⟩,[(.ret,⟨[NM],[],[],0,33⟩),(.ext 0,⟨[(6,.cl (.dead))],[],[],0,33⟩)],[],[0,1,2,7],[6]⟩
def I6(s: (List rj×Int×Int×Int×Unit)×Unit×Unit):Rm.R:=
 br (decide (s.1.2.2.2.1< (s.1.1.length:Int))) (iteP (0<=s.1.2.2.2.1) ((s.1.1[s.1.2.2.2.1.toNat]?).bind λx5=>br (x5.op.client==s.1.2.1) (iteP (0<=s.1.2.2.2.1) ((s.1.1[s.1.2.2.2.1.toNat]?).bind λx6=>br (x6.op.seq==s.1.2.2.1) (some (.inr (.inl (s.1.2.2.2,(()),(()))))) (some (.inl ((s.1.1,s.1.2.1,s.1.2.2.1,(IntKind.wrap .i64 (s.1.2.2.2.1+1)),()),(()),(()))))) none) (some (.inl ((s.1.1,s.1.2.1,s.1.2.2.1,(IntKind.wrap .i64 (s.1.2.2.2.1+1)),()),(()),(()))))) none) (some (.inr (.inr (((),()),(()),(())))))
def U8:=nw I6
def Vj[dE] :=Ie Tryz.f89 [0] Rm I6 [] [] (by kernel_rfl) λs=>by simp only[I6,tm];kernel_rfl
def Kv(a0:List rj)(a1:Int)(a2:Int):Option (Int×Unit):=
 (U8 ((a0,a1,a2,0,()),(()),(()))).bind λe7=>Sum.elim (λe7_0=>some e7_0.1) (λ_=>some ((-1),())) e7
def TR[dE] :=E0 89 Tryz.f89 YG KJ (λx=>Kv x.1 x.2.1 x.2.2.1) [] [Vj] (by kernel_rfl) λx=>by simp only[Kv,tm];kernel_rfl
def K8:Option (nn×Unit):=
 some ((⟨([0,0,0]:List Int),([]:List nq)⟩:nn),())
def Ta[dE] :=E0 210 Tryz.f210 [] [.st .machine] (λ_=>K8) [] [] (by kernel_rfl) λx=>by simp only[K8,tm];kernel_rfl
def Nv(a0:nn):Option (nn×Unit):=
 iteP ((([]:List Int)++a0.objects).length*8<=2 ^ 40) (iteP ((([]:List nq)++a0.sessions).length*32<=2 ^ 40) (some ((⟨(([]:List Int)++a0.objects),(([]:List nq)++a0.sessions)⟩:nn),())) none) none
def WZ[dE] :=E0 211 Tryz.f211 [.ty (.st .machine)] [.st .machine] (λx=>Nv x.1) [] [] (by kernel_rfl) λx=>by simp only[Nv,tm];kernel_rfl
abbrev LQ:LX:=⟨⟨[Jq,M9],[Vd],[],0,69⟩,[(.ret,⟨[Jq,OK],[Vd],[],0,69⟩),(.ext 0,⟨[Jq,NL],[Vd],[],0,69⟩)],[],[1,3],[1,2]⟩
def FH(s:Va×(ZE×Unit)×Unit):LQ.R:=
 br (decide (s.1.2.1< (s.2.1.1.1.length:Int))) (iteP (0<=s.1.2.1) ((s.2.1.1.1[s.1.2.1.toNat]?).bind λx4=>(Ei x4 0 9).bind λy5=>br (!y5.1) (some (.inr (.inl (((),false,()),s.2.1,(()))))) (some (.inl (((),(IntKind.wrap .i64 (s.1.2.1+1)),()),s.2.1,(()))))) none) (some (.inr (.inr (((),(),()),s.2.1,(())))))
def LG:=nw FH
def OQ[dE] :=Ie Tryz.f212 [0] LQ FH [Fb] [] (by kernel_rfl) λs=>by simp only[FH,tm];kernel_rfl
abbrev LR:LX:=⟨⟨[Jq,Ma],[Vd],[],0,69⟩,[(.ret,⟨[Jq,OK],[Vd],[],0,69⟩),(.ext 2,⟨[Jq,NL],[Vd],[],0,69⟩)],[],[1,4],[1,2]⟩
def FI(s:Va×(ZE×Unit)×Unit):LR.R:=
 br (decide (s.1.2.1< (s.2.1.1.2.1.length:Int))) (iteP (0<=s.1.2.1) ((s.2.1.1.2.1[s.1.2.1.toNat]?).bind λx10=>(Ei x10.client 0 2).bind λy11=>br (!y11.1) (some (.inr (.inl (((),false,()),s.2.1,(()))))) ((Ei x10.seq 1 99).bind λy12=>br (!y12.1) (some (.inr (.inl (((),false,()),s.2.1,(()))))) ((Ei x10.result.value 0 9).bind λy13=>br (!y13.1) (some (.inr (.inl (((),false,()),s.2.1,(()))))) (br (decide (s.1.2.1>0)) (iteP (0<=(IntKind.wrap .i64 (s.1.2.1-1))) ((s.2.1.1.2.1[(IntKind.wrap .i64 (s.1.2.1-1)).toNat]?).bind λx14=>br (decide (x14.client≥x10.client)) (some (.inr (.inl (((),false,()),s.2.1,(()))))) (some (.inl (((),(IntKind.wrap .i64 (s.1.2.1+1)),()),s.2.1,(()))))) none) (some (.inl (((),(IntKind.wrap .i64 (s.1.2.1+1)),()),s.2.1,(())))))))) none) (some (.inr (.inr (((),(),()),s.2.1,(())))))
def Jd:=nw FI
def OS[dE] :=Ie Tryz.f212 [1] LR FI [Fb] [] (by kernel_rfl) λs=>by simp only[FI,tm];kernel_rfl
def FN(a0:nn):Option (Bool×Unit):=
 (LG (((),0,()),((a0.objects,a0.sessions,()),()),(()))).bind λe6=>Sum.elim (λe6_0=>some e6_0.1.2) (λe6_1=>(Jd (((),0,()),e6_1.2.1,(()))).bind λe15=>Sum.elim (λe15_0=>some e15_0.1.2) (λe15_1=>some (((e15_1.2.1.1.1.length:Int)==3),())) e15) e6
def ME[dE] :=E0 212 Tryz.f212 [.ty (.st .machine)] [.b] (λx=>FN x.1) [] [OQ,OS] (by kernel_rfl) λx=>by simp only[FN,tm];kernel_rfl
abbrev Oz:LX:=⟨⟨[KI,Oc,Rc,NM],[Vd,Xk],[],0,28⟩,[(.ret,⟨[Oo,(5,.cl (.bl))],[Xk],[],0,28⟩),(.ext 0,⟨[Oo,(5,.cl (.dead))],[Xk],[],0,28⟩)],[],[1,2,4,6],[4,5]⟩
def FP(s: (Int×Unit×Unit×Int×Unit)×(ZE×(Int×Int×Bool×Int×Unit)×Unit)×Unit):Oz.R:=
 br (decide (s.1.2.2.2.1< (s.2.1.1.2.1.length:Int))) (iteP (0<=s.1.2.2.2.1) ((s.2.1.1.2.1[s.1.2.2.2.1.toNat]?).bind λx9=>br (x9.client==s.1.1) (iteP (0<=s.1.2.2.2.1) ((s.2.1.1.2.1[s.1.2.2.2.1.toNat]?).bind λx10=>some (.inr (.inl (((),true,()),((x10.client,x10.seq,x10.result.done,x10.result.value,()),()),(()))))) none) (some (.inl ((s.1.1,(),(),(IntKind.wrap .i64 (s.1.2.2.2.1+1)),()),s.2.1,(()))))) none) (some (.inr (.inr (((),(),()),s.2.1.2,(())))))
def Ko:=nw FP
def Sk[dE] :=Ie Tryz.f213 [0] Oz FP [] [] (by kernel_rfl) λs=>by simp only[FP,tm];kernel_rfl
def GL(a0:nn)(a1:Int):Option (nq×Bool×Unit):=
 (Ko ((a1,(),(),0,()),((a0.objects,a0.sessions,()),(0,0,false,0,()),()),(()))).bind λe11=>Sum.elim (λe11_0=>some ((⟨e11_0.2.1.1.1,e11_0.2.1.1.2.1,(⟨e11_0.2.1.1.2.2.1,e11_0.2.1.1.2.2.2.1⟩:Result)⟩:nq),e11_0.1.2)) (λ_=>some ((⟨0,0,(⟨false,0⟩:Result)⟩:nq),false,())) e11
def TY[dE] :=E0 213 Tryz.f213 YH [.st .session,.b] (λx=>GL x.1 x.2.1) [] [Sk] (by kernel_rfl) λx=>by simp only[GL,tm];kernel_rfl
abbrev Pd:LX:=⟨⟨[Rd,Rc,(5,.cl (.ptr 2 0)),W9,Oq,(11,.cl (.ptr 4 0)),Pc],[Y7,[.em,.em],VI,VJ,VI],Ye,0,127⟩,[(.ext 0,⟨[Rd,Rc,(5,.cl (.ptr 2 0)),W9,Oq,(11,.cl (.ptr 4 0)),Pc],[Y7,[.em,.em],VI,VJ,VI],Ye,0,127⟩)],[],[3,4,5,7,9,11,12],[3,4,5,7,9,11,12]⟩
def Iy(s: (Unit×Unit×Unit×Unit×Bool×Unit×Int×Unit)×((Int×Int×Int×Int×Int×Int×Unit)×Yc×(Bool×Int×Unit)×Yc×(Bool×Int×Unit)×Unit)×List Int×List nq×Unit):Pd.R:=
 br (decide (s.1.2.2.2.2.2.2.1< (s.2.2.2.1.length:Int))) (iteP (0<=s.1.2.2.2.2.2.2.1/\s.1.2.2.2.2.2.2.1< (s.2.2.2.1.length:Int)) ((s.2.2.2.1[s.1.2.2.2.2.2.2.1.toNat]?).bind λx22=>br (decide (x22.client<s.2.1.1.1)) (some (.inl (((),(),(),(),s.1.2.2.2.2.1,(),(IntKind.wrap .i64 (s.1.2.2.2.2.2.2.1+1)),()),s.2))) (some (.inr s))) none) (some (.inr s))
def Lf:=nw Iy
def Ts[dE] :=Ie Tryz.f154 [0] Pd Iy [] [] (by kernel_rfl) λs=>by simp only[Iy,tm];kernel_rfl
def JX(a0:nn)(a1:Op):Option (nn×Result×Bool×Unit):=
 (Nv a0).bind λy1=>(FN a0).bind λy2=>br (!y2.1) (some (y1.1,(⟨false,0⟩:Result),false,())) ((EH a1).bind λy3=>br (!y3.1) (some (y1.1,(⟨false,0⟩:Result),false,())) ((GL a0 a1.client).bind λy4=>let j45:Option (nn×Result×Bool×Unit):=let j44:Option (nn×Result×Bool×Unit):=iteP (0<=a1.object) ((a0.objects[a1.object.toNat]?).bind λx5=>br (a1.kind==1) (iteP (0<=a1.object/\a1.object< (y1.1.objects.length:Int)) ((y1.1.objects[a1.object.toNat]?).bind λ_=>(Lf (((),(),(),(),y4.2.1,(),0,()),((a1.client,a1.seq,a1.kind,a1.object,a1.old,a1.value,()),((),(),()),(false,0,()),((),(),()),(true,x5,()),()),(y1.1.objects.set a1.object.toNat a1.value),y1.1.sessions,())).bind λe23=>iteP (0<=e23.1.2.2.2.2.2.2.1/\e23.1.2.2.2.2.2.2.1<=(e23.2.2.2.1.length:Int)/\(e23.2.2.2.1.length:Int)<=((e23.2.2.2.1.length:Nat):Int)) (br e23.1.2.2.2.2.1 (iteP (0<=(IntKind.wrap .i64 (e23.1.2.2.2.2.2.2.1+1))/\(IntKind.wrap .i64 (e23.1.2.2.2.2.2.2.1+1))<=(e23.2.2.2.1.length:Int)/\(e23.2.2.2.1.length:Int)<=((e23.2.2.2.1.length:Nat):Int)) (iteP (0<=(0:Int)/\(0:Int)<=e23.1.2.2.2.2.2.2.1/\e23.1.2.2.2.2.2.2.1<=((e23.2.2.2.1.length:Nat):Int)) (iteP ((0+(0:Int).toNat)+(e23.1.2.2.2.2.2.2.1.toNat-(0:Int).toNat)<=e23.2.2.2.1.length) (iteP ((([]:List nq)++((e23.2.2.2.1.drop (0+(0:Int).toNat)).take (e23.1.2.2.2.2.2.2.1.toNat-(0:Int).toNat))).length*32<=2 ^ 40) (iteP (((([]:List nq)++((e23.2.2.2.1.drop (0+(0:Int).toNat)).take (e23.1.2.2.2.2.2.2.1.toNat-(0:Int).toNat)))++([(⟨e23.2.1.1.1,e23.2.1.1.2.1,(⟨e23.2.1.2.2.2.2.1.1,e23.2.1.2.2.2.2.1.2.1⟩:Result)⟩:nq)]:List nq)).length*32<=2 ^ 40) (iteP ((0+(IntKind.wrap .i64 (e23.1.2.2.2.2.2.2.1+1)).toNat)+((e23.2.2.2.1.length:Int).toNat-(IntKind.wrap .i64 (e23.1.2.2.2.2.2.2.1+1)).toNat)<=e23.2.2.2.1.length) (iteP ((((([]:List nq)++((e23.2.2.2.1.drop (0+(0:Int).toNat)).take (e23.1.2.2.2.2.2.2.1.toNat-(0:Int).toNat)))++([(⟨e23.2.1.1.1,e23.2.1.1.2.1,(⟨e23.2.1.2.2.2.2.1.1,e23.2.1.2.2.2.2.1.2.1⟩:Result)⟩:nq)]:List nq))++((e23.2.2.2.1.drop (0+(IntKind.wrap .i64 (e23.1.2.2.2.2.2.2.1+1)).toNat)).take ((e23.2.2.2.1.length:Int).toNat-(IntKind.wrap .i64 (e23.1.2.2.2.2.2.2.1+1)).toNat))).length*32<=2 ^ 40) (some ((⟨e23.2.2.1,(((([]:List nq)++((e23.2.2.2.1.drop (0+(0:Int).toNat)).take (e23.1.2.2.2.2.2.2.1.toNat-(0:Int).toNat)))++([(⟨e23.2.1.1.1,e23.2.1.1.2.1,(⟨e23.2.1.2.2.2.2.1.1,e23.2.1.2.2.2.2.1.2.1⟩:Result)⟩:nq)]:List nq))++((e23.2.2.2.1.drop (0+(IntKind.wrap .i64 (e23.1.2.2.2.2.2.2.1+1)).toNat)).take ((e23.2.2.2.1.length:Int).toNat-(IntKind.wrap .i64 (e23.1.2.2.2.2.2.2.1+1)).toNat)))⟩:nn),(⟨e23.2.1.2.2.2.2.1.1,e23.2.1.2.2.2.2.1.2.1⟩:Result),true,())) none) none) none) none) none) none) none) (iteP (0<=(0:Int)/\(0:Int)<=e23.1.2.2.2.2.2.2.1/\e23.1.2.2.2.2.2.2.1<=((e23.2.2.2.1.length:Nat):Int)) (iteP ((0+(0:Int).toNat)+(e23.1.2.2.2.2.2.2.1.toNat-(0:Int).toNat)<=e23.2.2.2.1.length) (iteP ((([]:List nq)++((e23.2.2.2.1.drop (0+(0:Int).toNat)).take (e23.1.2.2.2.2.2.2.1.toNat-(0:Int).toNat))).length*32<=2 ^ 40) (iteP (((([]:List nq)++((e23.2.2.2.1.drop (0+(0:Int).toNat)).take (e23.1.2.2.2.2.2.2.1.toNat-(0:Int).toNat)))++([(⟨e23.2.1.1.1,e23.2.1.1.2.1,(⟨e23.2.1.2.2.2.2.1.1,e23.2.1.2.2.2.2.1.2.1⟩:Result)⟩:nq)]:List nq)).length*32<=2 ^ 40) (iteP ((0+e23.1.2.2.2.2.2.2.1.toNat)+((e23.2.2.2.1.length:Int).toNat-e23.1.2.2.2.2.2.2.1.toNat)<=e23.2.2.2.1.length) (iteP ((((([]:List nq)++((e23.2.2.2.1.drop (0+(0:Int).toNat)).take (e23.1.2.2.2.2.2.2.1.toNat-(0:Int).toNat)))++([(⟨e23.2.1.1.1,e23.2.1.1.2.1,(⟨e23.2.1.2.2.2.2.1.1,e23.2.1.2.2.2.2.1.2.1⟩:Result)⟩:nq)]:List nq))++((e23.2.2.2.1.drop (0+e23.1.2.2.2.2.2.2.1.toNat)).take ((e23.2.2.2.1.length:Int).toNat-e23.1.2.2.2.2.2.2.1.toNat))).length*32<=2 ^ 40) (some ((⟨e23.2.2.1,(((([]:List nq)++((e23.2.2.2.1.drop (0+(0:Int).toNat)).take (e23.1.2.2.2.2.2.2.1.toNat-(0:Int).toNat)))++([(⟨e23.2.1.1.1,e23.2.1.1.2.1,(⟨e23.2.1.2.2.2.2.1.1,e23.2.1.2.2.2.2.1.2.1⟩:Result)⟩:nq)]:List nq))++((e23.2.2.2.1.drop (0+e23.1.2.2.2.2.2.2.1.toNat)).take ((e23.2.2.2.1.length:Int).toNat-e23.1.2.2.2.2.2.2.1.toNat)))⟩:nn),(⟨e23.2.1.2.2.2.2.1.1,e23.2.1.2.2.2.2.1.2.1⟩:Result),true,())) none) none) none) none) none) none)) none) none) (let j43 (p26:List Int):Option (nn×Result×Bool×Unit):=(Lf (((),(),(),(),y4.2.1,(),0,()),((a1.client,a1.seq,a1.kind,a1.object,a1.old,a1.value,()),((),(),()),(false,0,()),((),(),()),((x5==a1.old),x5,()),()),p26,y1.1.sessions,())).bind λe42=>iteP (0<=e42.1.2.2.2.2.2.2.1/\e42.1.2.2.2.2.2.2.1<=(e42.2.2.2.1.length:Int)/\(e42.2.2.2.1.length:Int)<=((e42.2.2.2.1.length:Nat):Int)) (br e42.1.2.2.2.2.1 (iteP (0<=(IntKind.wrap .i64 (e42.1.2.2.2.2.2.2.1+1))/\(IntKind.wrap .i64 (e42.1.2.2.2.2.2.2.1+1))<=(e42.2.2.2.1.length:Int)/\(e42.2.2.2.1.length:Int)<=((e42.2.2.2.1.length:Nat):Int)) (iteP (0<=(0:Int)/\(0:Int)<=e42.1.2.2.2.2.2.2.1/\e42.1.2.2.2.2.2.2.1<=((e42.2.2.2.1.length:Nat):Int)) (iteP ((0+(0:Int).toNat)+(e42.1.2.2.2.2.2.2.1.toNat-(0:Int).toNat)<=e42.2.2.2.1.length) (iteP ((([]:List nq)++((e42.2.2.2.1.drop (0+(0:Int).toNat)).take (e42.1.2.2.2.2.2.2.1.toNat-(0:Int).toNat))).length*32<=2 ^ 40) (iteP (((([]:List nq)++((e42.2.2.2.1.drop (0+(0:Int).toNat)).take (e42.1.2.2.2.2.2.2.1.toNat-(0:Int).toNat)))++([(⟨e42.2.1.1.1,e42.2.1.1.2.1,(⟨e42.2.1.2.2.2.2.1.1,e42.2.1.2.2.2.2.1.2.1⟩:Result)⟩:nq)]:List nq)).length*32<=2 ^ 40) (iteP ((0+(IntKind.wrap .i64 (e42.1.2.2.2.2.2.2.1+1)).toNat)+((e42.2.2.2.1.length:Int).toNat-(IntKind.wrap .i64 (e42.1.2.2.2.2.2.2.1+1)).toNat)<=e42.2.2.2.1.length) (iteP ((((([]:List nq)++((e42.2.2.2.1.drop (0+(0:Int).toNat)).take (e42.1.2.2.2.2.2.2.1.toNat-(0:Int).toNat)))++([(⟨e42.2.1.1.1,e42.2.1.1.2.1,(⟨e42.2.1.2.2.2.2.1.1,e42.2.1.2.2.2.2.1.2.1⟩:Result)⟩:nq)]:List nq))++((e42.2.2.2.1.drop (0+(IntKind.wrap .i64 (e42.1.2.2.2.2.2.2.1+1)).toNat)).take ((e42.2.2.2.1.length:Int).toNat-(IntKind.wrap .i64 (e42.1.2.2.2.2.2.2.1+1)).toNat))).length*32<=2 ^ 40) (some ((⟨e42.2.2.1,(((([]:List nq)++((e42.2.2.2.1.drop (0+(0:Int).toNat)).take (e42.1.2.2.2.2.2.2.1.toNat-(0:Int).toNat)))++([(⟨e42.2.1.1.1,e42.2.1.1.2.1,(⟨e42.2.1.2.2.2.2.1.1,e42.2.1.2.2.2.2.1.2.1⟩:Result)⟩:nq)]:List nq))++((e42.2.2.2.1.drop (0+(IntKind.wrap .i64 (e42.1.2.2.2.2.2.2.1+1)).toNat)).take ((e42.2.2.2.1.length:Int).toNat-(IntKind.wrap .i64 (e42.1.2.2.2.2.2.2.1+1)).toNat)))⟩:nn),(⟨e42.2.1.2.2.2.2.1.1,e42.2.1.2.2.2.2.1.2.1⟩:Result),true,())) none) none) none) none) none) none) none) (iteP (0<=(0:Int)/\(0:Int)<=e42.1.2.2.2.2.2.2.1/\e42.1.2.2.2.2.2.2.1<=((e42.2.2.2.1.length:Nat):Int)) (iteP ((0+(0:Int).toNat)+(e42.1.2.2.2.2.2.2.1.toNat-(0:Int).toNat)<=e42.2.2.2.1.length) (iteP ((([]:List nq)++((e42.2.2.2.1.drop (0+(0:Int).toNat)).take (e42.1.2.2.2.2.2.2.1.toNat-(0:Int).toNat))).length*32<=2 ^ 40) (iteP (((([]:List nq)++((e42.2.2.2.1.drop (0+(0:Int).toNat)).take (e42.1.2.2.2.2.2.2.1.toNat-(0:Int).toNat)))++([(⟨e42.2.1.1.1,e42.2.1.1.2.1,(⟨e42.2.1.2.2.2.2.1.1,e42.2.1.2.2.2.2.1.2.1⟩:Result)⟩:nq)]:List nq)).length*32<=2 ^ 40) (iteP ((0+e42.1.2.2.2.2.2.2.1.toNat)+((e42.2.2.2.1.length:Int).toNat-e42.1.2.2.2.2.2.2.1.toNat)<=e42.2.2.2.1.length) (iteP ((((([]:List nq)++((e42.2.2.2.1.drop (0+(0:Int).toNat)).take (e42.1.2.2.2.2.2.2.1.toNat-(0:Int).toNat)))++([(⟨e42.2.1.1.1,e42.2.1.1.2.1,(⟨e42.2.1.2.2.2.2.1.1,e42.2.1.2.2.2.2.1.2.1⟩:Result)⟩:nq)]:List nq))++((e42.2.2.2.1.drop (0+e42.1.2.2.2.2.2.2.1.toNat)).take ((e42.2.2.2.1.length:Int).toNat-e42.1.2.2.2.2.2.2.1.toNat))).length*32<=2 ^ 40) (some ((⟨e42.2.2.1,(((([]:List nq)++((e42.2.2.2.1.drop (0+(0:Int).toNat)).take (e42.1.2.2.2.2.2.2.1.toNat-(0:Int).toNat)))++([(⟨e42.2.1.1.1,e42.2.1.1.2.1,(⟨e42.2.1.2.2.2.2.1.1,e42.2.1.2.2.2.2.1.2.1⟩:Result)⟩:nq)]:List nq))++((e42.2.2.2.1.drop (0+e42.1.2.2.2.2.2.2.1.toNat)).take ((e42.2.2.2.1.length:Int).toNat-e42.1.2.2.2.2.2.2.1.toNat)))⟩:nn),(⟨e42.2.1.2.2.2.2.1.1,e42.2.1.2.2.2.2.1.2.1⟩:Result),true,())) none) none) none) none) none) none)) none;br (x5==a1.old) (iteP (0<=a1.object/\a1.object< (y1.1.objects.length:Int)) ((y1.1.objects[a1.object.toNat]?).bind λ_=>j43 (y1.1.objects.set a1.object.toNat a1.value)) none) (j43 y1.1.objects))) none;br y4.2.1 (br (decide (y4.1.seq>a1.seq)) (some (y1.1,(⟨false,0⟩:Result),false,())) (j44)) (j44);br y4.2.1 (br (y4.1.seq==a1.seq) (some (y1.1,y4.1.result,true,())) (j45)) (j45)))
def Pt[dE] :=E0 154 Tryz.f154 [.ty (.st .machine),.ty (.st .op)] [.st .machine,.st .result,.b] (λx=>JX x.1 x.2.1) [WZ,ME,KG,TY] [Ts] (by kernel_rfl) λx=>by simp only[JX,tm];kernel_rfl
abbrev Ox:LX:=⟨⟨[Mb,Oc,Rc,Na],[[.em,.em],VJ],Ye,0,29⟩,[(.ext 0,⟨[Oc,Rc],[[.em,.em],VJ],Ye,0,29⟩)],[],[0,2,4,5],[2,4]⟩
def Kg(s: (List rj×Unit×Unit×Int×Unit)×(Yc×Yc×Unit)×List Int×List nq×Unit):Ox.R:=
 br (decide (s.1.2.2.2.1< (s.1.1.length:Int))) (iteP (0<=s.1.2.2.2.1) ((s.1.1[s.1.2.2.2.1.toNat]?).bind λx7=>(JX (⟨s.2.2.1,s.2.2.2.1⟩:nn) x7.op).bind λy8=>some (.inl ((s.1.1,(),(),(IntKind.wrap .i64 (s.1.2.2.2.1+1)),()),(((),(),()),((),(),()),()),y8.1.objects,y8.1.sessions,()))) none) (some (.inr (((),(),()),s.2)))
def R2:=nw Kg
def Si[dE] :=Ie Tryz.f153 [0] Ox Kg [Pt] [] (by kernel_rfl) λs=>by simp only[Kg,tm];kernel_rfl
def Ir(a0:List rj):Option (nn×Bool×Unit):=
 (K8).bind λy1=>(EL a0).bind λy2=>br (!y2.1) (some ((⟨([]:List Int),([]:List nq)⟩:nn),false,())) ((R2 ((a0,(),(),0,()),(((),(),()),((),(),()),()),y1.1.objects,y1.1.sessions,())).bind λe9=>some ((⟨e9.2.2.1,e9.2.2.2.1⟩:nn),true,()))
def Nz[dE] :=E0 153 Tryz.f153 Qq [.st .machine,.b] (λx=>Ir x.1) [Ta,Ld] [Si] (by kernel_rfl) λx=>by simp only[Ir,tm];kernel_rfl
def Ib(a0:Op):Option (Bool×Unit):=
 some ((a0.kind==2),())
def Oj[dE] :=E0 155 Tryz.f155 VA [.b] (λx=>Ib x.1) [] [] (by kernel_rfl) λx=>by simp only[Ib,tm];kernel_rfl
def Gn(a0:qg)(a1:Int):Option (Bool×Unit):=
 (Ea a0).bind λy1=>br y1.1 ((Ei a1 0 4).bind λy2=>br y2.1 (iteP (0<=a1) ((a0.servers[a1.toNat]?).bind λx3=>(Er x3 a1).bind λy4=>some (y4.1,())) none) (some (false,()))) (some (false,()))
def Le[dE] :=E0 157 Tryz.f157 Mn [.b] (λx=>Gn x.1 x.2.1) [Ek,Fb,Iu] [] (by kernel_rfl) λx=>by simp only[Gn,tm];kernel_rfl
abbrev MT:LX:=⟨⟨[NN,Pa,MN,NM],[],Iv,0,34⟩,[(.ext 0,⟨[Pa,MN],[],Iv,0,34⟩)],[],[0,1,5,6],[1,5]⟩
def GO(s:ZD×Unit×List Int×Unit):MT.R:=
 br (decide (s.1.2.2.2.1< (s.1.1.length:Int))) (iteP (0<=s.1.2.2.2.1) ((s.1.1[s.1.2.2.2.1.toNat]?).bind λx5=>(Ig s.2.2.1 x5).bind λy6=>some (.inl ((s.1.1,s.1.2.1,(),(IntKind.wrap .i64 (s.1.2.2.2.1+1)),()),(()),y6.1,()))) none) (some (.inr ((s.1.2.1,(),()),(()),s.2.2)))
def MJ:=nw GO
def PN[dE] :=Ie Tryz.f214 [0] MT GO [N9] [] (by kernel_rfl) λs=>by simp only[GO,tm];kernel_rfl
abbrev MU:LX:=⟨⟨[Pa,MN,OL],[],Iv,0,34⟩,[(.ext 2,⟨[MN],[],Iv,0,34⟩)],[],[1,5,7],[5]⟩
def GP(s:YZ×Unit×List Int×Unit):MU.R:=
 br (decide (s.1.2.2.1< (s.1.1.length:Int))) (iteP (0<=s.1.2.2.1) ((s.1.1[s.1.2.2.1.toNat]?).bind λx11=>(Ig s.2.2.1 x11).bind λy12=>some (.inl ((s.1.1,(),(IntKind.wrap .i64 (s.1.2.2.1+1)),()),(()),y12.1,()))) none) (some (.inr (((),()),(()),s.2.2)))
def ML:=nw GP
def PO[dE] :=Ie Tryz.f214 [1] MU GP [N9] [] (by kernel_rfl) λs=>by simp only[GP,tm];kernel_rfl
def HF(a0:List Int)(a1:List Int):Option ((List Int)×Unit):=
 (MJ ((a0,a1,(),0,()),(()),([]:List Int),())).bind λe7=>(ML ((e7.1.1,(),0,()),(()),e7.2.2)).bind λe13=>some e13.2.2
def Q1[dE] :=E0 214 Tryz.f214 Uj Nb (λx=>HF x.1 x.2.1) [] [PN,PO] (by kernel_rfl) λx=>by simp only[HF,tm];kernel_rfl
def EI(a0:nE):Option ((List Int)×Unit):=
 (Eg a0).bind λy1=>br (!y1.1) (some (([]:List Int),())) ((HF a0.replicas a0.witnesses).bind λy2=>some (y2.1,()))
def Jo[dE] :=E0 158 Tryz.f158 Wk Nb (λx=>EI x.1) [I5,Q1] [] (by kernel_rfl) λx=>by simp only[EI,tm];kernel_rfl
abbrev Nn:LX:=⟨⟨[Oc,Na,(6,.cl (.own 0 (.i .i64))),OL],[Jr],Iv,0,37⟩,[(.ext 0,⟨[Na],[],[],0,37⟩)],[],[2,5,6,7],[5]⟩
def IZ(s:Y0×(MO×Unit)×List Int×Unit):Nn.R:=
 br (decide (s.1.2.2.2.1< (s.2.2.1.length:Int))) (iteP (0<=s.1.2.2.2.1/\s.1.2.2.2.1< (s.2.2.1.length:Int)) ((s.2.2.1[s.1.2.2.2.1.toNat]?).bind λx17=>iteP (0<=x17) ((s.2.1.1.2.1[x17.toNat]?).bind λx18=>some (.inl (((),(if x18.version<s.1.2.1 then x18.version else s.1.2.1),(),(IntKind.wrap .i64 (s.1.2.2.2.1+1)),()),s.2))) none) none) (some (.inr ((s.1.2.1,()),(()),(()))))
def Qo:=nw IZ
def Qv[dE] :=Ie Tryz.f156 [0] Nn IZ [] [] (by kernel_rfl) λs=>by simp only[IZ,tm];kernel_rfl
def IQ(a0:qg)(a1:Int):Option (Int×Unit):=
 (Gn a0 a1).bind λy1=>br (!y1.1) (some (0,())) (iteP (0<=a1) ((a0.servers[a1.toNat]?).bind λx2=>(EI x2.config).bind λy3=>(Qo (((),2,(),0,()),((a0.now,a0.servers,a0.sides,a0.master.configs,a0.master.activated,a0.masterUp,a0.lease.epoch,a0.lease.holder,a0.lease.ends,a0.places,()),()),y3.1,())).bind λe19=>some e19.1) none)
def RS[dE] :=E0 156 Tryz.f156 Mn KJ (λx=>IQ x.1 x.2.1) [Le,Jo] [Qv] (by kernel_rfl) λx=>by simp only[IQ,tm];kernel_rfl
def FD(a0:qg)(a1:Int)(a2:Op):Option (qg×Int×Unit):=
 (EN a0).bind λy1=>(Ea a0).bind λy2=>br (!y2.1) (some (y1.1,1,())) ((Ei a1 0 4).bind λy3=>br (!y3.1) (some (y1.1,1,())) ((EH a2).bind λy4=>br (!y4.1) (some (y1.1,1,())) (iteP (0<=a1) ((a0.servers[a1.toNat]?).bind λx5=>br (!x5.up) (some (y1.1,2,())) ((Er x5 a1).bind λy6=>br (!y6.1) (some (y1.1,3,())) ((Kv x5.log a2.client a2.seq).bind λy7=>let j18:Option (qg×Int×Unit):=(Ir x5.log).bind λy9=>(JX y9.1 a2).bind λy10=>br (!y10.2.2.1) (some (y1.1,11,())) ((Ib a2).bind λy11=>let j17:Option (qg×Int×Unit):=iteP (0<=a1/\a1< (y1.1.servers.length:Int)) ((y1.1.servers[a1.toNat]?).bind λx13=>(y1.1.servers[a1.toNat]?).bind λx14=>iteP ((0:Nat)=0) (iteP (x14.log.length<x13.log.length) none (iteP ((x14.log.take x13.log.length++([(⟨x5.epoch,a2⟩:rj)]:List rj)).length*56<=2 ^ 40) (iteP (0<=a1/\a1< (y1.1.servers.length:Int)) ((y1.1.servers[a1.toNat]?).bind λx15=>iteP (a1.toNat=a1.toNat) (some ((⟨y1.1.now,(y1.1.servers.set a1.toNat (⟨x15.up,x15.intact,x15.version,x15.epoch,x15.config,x15.first,(x14.log.take x13.log.length++([(⟨x5.epoch,a2⟩:rj)]:List rj)),x15.commit,x15.learned⟩:qj)),y1.1.sides,y1.1.master,y1.1.masterUp,y1.1.lease,y1.1.places⟩:qg),0,())) none) none) none)) none) none;br y11.1 ((IQ a0 a1).bind λy12=>br (decide (y12.1<2)) (some (y1.1,6,())) (br ((x5.log.length:Int)==16) (some (y1.1,5,())) (j17))) (br ((x5.log.length:Int)==16) (some (y1.1,5,())) (j17)));br (decide (y7.1≥0)) (iteP (0<=y7.1) ((x5.log[y7.1.toNat]?).bind λx8=>br (!((x8.op.client==a2.client)&&((x8.op.seq==a2.seq)&&((x8.op.kind==a2.kind)&&((x8.op.object==a2.object)&&((x8.op.old==a2.old)&&((x8.op.value==a2.value)&&true))))))) (some (y1.1,11,())) (br (decide (y7.1≥0)) (some (y1.1,0,())) (j18))) none) (br (decide (y7.1≥0)) (some (y1.1,0,())) (j18))))) none)))
def O1[dE] :=E0 88 Tryz.f88 YI Od (λx=>FD x.1 x.2.1 x.2.2.1) [Fi,Ek,Fb,KG,Iu,TR,Nz,Pt,Oj,RS] [] (by kernel_rfl) λx=>by simp only[FD,tm,-eq_self];kernel_rfl
def EK(a0:List Int)(a1:Int)(a2:Int):Option (Bool×Unit):=
 (Fj a0).bind λy1=>br y1.1 ((Ei a1 0 4).bind λy2=>br y2.1 ((Ei a2 0 4).bind λy3=>br y3.1 (iteP (0<=a1) ((a0[a1.toNat]?).bind λx4=>iteP (0<=a2) ((a0[a2.toNat]?).bind λx5=>some ((x4==x5),())) none) none) (some (false,()))) (some (false,()))) (some (false,()))
def J3[dE] :=E0 58 Tryz.f58 W7 [.b] (λx=>EK x.1 x.2.1 x.2.2.1) [M5,Fb] [] (by kernel_rfl) λx=>by simp only[EK,tm];kernel_rfl
def FK(a0:qg)(a1:Int)(a2:Int):Option (Bool×Unit):=
 iteP (0<=a2) ((a0.servers[a2.toNat]?).bind λx1=>(EK a0.sides a1 a2).bind λy2=>br y2.1 (br x1.up (iteP (0<=a1) ((a0.servers[a1.toNat]?).bind λx3=>br (x1.epoch==x3.epoch) (iteP (0<=a1) ((a0.servers[a1.toNat]?).bind λx4=>br (decide (x1.commit<=(x4.log.length:Int))) (iteP (0<=a1) ((a0.servers[a1.toNat]?).bind λx5=>(FY x1.config x5.config).bind λy6=>some (y6.1,())) none) (some (false,()))) none) (some (false,()))) none) (some (false,()))) (some (false,()))) none
def Q3[dE] :=E0 215 Tryz.f215 R6 [.b] (λx=>FK x.1 x.2.1 x.2.2.1) [J3,JE] [] (by kernel_rfl) λx=>by simp only[FK,tm];kernel_rfl
def N5(a0:List rj):Option (Int×(List rj)×Unit):=
 (EL a0).bind λy1=>br (!y1.1) (some (0,([]:List rj),())) (iteP (0<=(if (IntKind.wrap .i64 ((a0.length:Int)-3))>0 then (IntKind.wrap .i64 ((a0.length:Int)-3)) else 0)/\(if (IntKind.wrap .i64 ((a0.length:Int)-3))>0 then (IntKind.wrap .i64 ((a0.length:Int)-3)) else 0)<=(a0.length:Int)/\(a0.length:Int)<=(a0.length:Int)) ((FC ((a0.drop (if (IntKind.wrap .i64 ((a0.length:Int)-3))>0 then (IntKind.wrap .i64 ((a0.length:Int)-3)) else 0).toNat).take ((a0.length:Int).toNat-(if (IntKind.wrap .i64 ((a0.length:Int)-3))>0 then (IntKind.wrap .i64 ((a0.length:Int)-3)) else 0).toNat))).bind λy2=>some ((if (IntKind.wrap .i64 ((a0.length:Int)-3))>0 then (IntKind.wrap .i64 ((a0.length:Int)-3)) else 0),y2.1,())) none)
def Wb[dE] :=E0 251 Tryz.f251 Qq aag (λx=>N5 x.1) [Ld,IV] [] (by kernel_rfl) λx=>by simp only[N5,tm];kernel_rfl
def Nu(a0:List rj):Option (Int×(List rj)×Unit):=
 (N5 a0).bind λy1=>some (y1.1,y1.2.1,())
def WX[dE] :=E0 216 Tryz.f216 Qq aag (λx=>Nu x.1) [Wb] [] (by kernel_rfl) λx=>by simp only[Nu,tm];kernel_rfl
def F0(a0:qg)(a1:Int)(a2:Int):Option (qg×Bool×Unit):=
 (EN a0).bind λy1=>(Gn a0 a1).bind λy2=>br (!y2.1) (some (y1.1,false,())) (iteP (0<=a1) ((a0.servers[a1.toNat]?).bind λx3=>(EI x3.config).bind λy4=>(EZ y4.1 a2).bind λy5=>br (!y5.1) (some (y1.1,false,())) ((FK a0 a1 a2).bind λy6=>br (!y6.1) (some (y1.1,false,())) (iteP (0<=a1) ((a0.servers[a1.toNat]?).bind λx7=>iteP (0<=a1) ((a0.servers[a1.toNat]?).bind λx8=>(EJ x8.config a2).bind λy9=>br (y9.1==3) ((Nu x7.log).bind λy10=>iteP (0<=a2/\a2< (y1.1.servers.length:Int)) (iteP (0<=a2/\a2< (y1.1.servers.length:Int)) ((y1.1.servers[a2.toNat]?).bind λx11=>let z12:=y1.1.servers.set a2.toNat (⟨x11.up,x11.intact,x11.version,x11.epoch,x11.config,y10.1,x11.log,x11.commit,x11.learned⟩:qj);(z12[a2.toNat]?).bind λx13=>some ((⟨y1.1.now,(z12.set a2.toNat (⟨x13.up,x13.intact,x13.version,x13.epoch,x13.config,x13.first,y10.2.1,x13.commit,x13.learned⟩:qj)),y1.1.sides,y1.1.master,y1.1.masterUp,y1.1.lease,y1.1.places⟩:qg),true,())) none) none) ((FC x7.log).bind λy15=>iteP (0<=a2/\a2< (y1.1.servers.length:Int)) ((y1.1.servers[a2.toNat]?).bind λx16=>some ((⟨y1.1.now,(y1.1.servers.set a2.toNat (⟨x16.up,x16.intact,x16.version,x16.epoch,x16.config,x16.first,y15.1,x16.commit,x16.learned⟩:qj)),y1.1.sides,y1.1.master,y1.1.masterUp,y1.1.lease,y1.1.places⟩:qg),true,())) none)) none) none))) none)
def QY[dE] :=E0 159 Tryz.f159 R6 [.st .cluster,.b] (λx=>F0 x.1 x.2.1 x.2.2.1) [Fi,Le,Jo,GM,Q3,MF,WX,IV] [] (by kernel_rfl) λx=>by simp only[F0,tm];kernel_rfl
abbrev JN:LX:=⟨⟨[KI,Oo,LL,Xa,Um,(9,.cl (.int .i64))],[MP,Ve],Yf,0,74⟩,[(.ext 0,⟨[KI,Oo,LL,Xa,Um],[MP,Ve],Yf,0,74⟩)],[],[1,4,6,7,8,9],[1,4,6,7,8]⟩
def Hf(s:Xh×(Mq×Mq×Unit)×List Int×List qj×List Int×List nE×List uN×Unit):JN.R:=
 br (decide (s.1.2.2.2.2.2.1< (s.2.2.1.length:Int))) (iteP (0<=s.1.2.2.2.2.2.1/\s.1.2.2.2.2.2.1< (s.2.2.1.length:Int)) ((s.2.2.1[s.1.2.2.2.2.2.1.toNat]?).bind λx25=>(F0 (⟨s.2.1.2.1.1,s.2.2.2.1,s.2.2.2.2.1,(⟨s.2.2.2.2.2.1,s.2.1.2.1.2.2.2.2.1⟩:jY),s.2.1.2.1.2.2.2.2.2.1,(⟨s.2.1.2.1.2.2.2.2.2.2.1,s.2.1.2.1.2.2.2.2.2.2.2.1,s.2.1.2.1.2.2.2.2.2.2.2.2.1⟩:uK),s.2.2.2.2.2.2.1⟩:qg) s.1.1 x25).bind λy26=>let j28 (p27:Bool):JN.R:=some (.inl ((s.1.1,(),(),(),p27,(IntKind.wrap .i64 (s.1.2.2.2.2.2.1+1)),()),(s.2.1.1,(y26.1.now,(),(),(),y26.1.master.activated,y26.1.masterUp,y26.1.lease.epoch,y26.1.lease.holder,y26.1.lease.ends,(),()),()),s.2.2.1,y26.1.servers,y26.1.sides,y26.1.master.configs,y26.1.places,()));br s.1.2.2.2.2.1 (j28 y26.2.1) (j28 false)) none) (some (.inr ((s.1.1,(),(),(),s.1.2.2.2.2.1,()),s.2)))
def O8:=nw Hf
def Pi[dE] :=Ie Tryz.f90 [0] JN Hf [QY] [] (by kernel_rfl) λs=>by simp only[Hf,tm];kernel_rfl
abbrev LO:LX:=⟨⟨[KI,Oo,LL,Xa,Um,Pc],[MP,Ve],Yf,0,74⟩,[(.ext 2,⟨[Oo,LL,Um],[MP,R7],Up,0,74⟩)],[],[1,4,6,7,8,12],[4,6,8]⟩
def GV(s:Xh×(Mq×Mq×Unit)×List Int×List qj×List Int×List nE×List uN×Unit):LO.R:=
 br (decide (s.1.2.2.2.2.2.1< (s.2.2.1.length:Int))) (br s.1.2.2.2.2.1 (iteP (0<=s.1.2.2.2.2.2.1/\s.1.2.2.2.2.2.1< (s.2.2.1.length:Int)) ((s.2.2.1[s.1.2.2.2.2.2.1.toNat]?).bind λx50=>iteP (0<=s.1.1/\s.1.1< (s.2.2.2.1.length:Int)) ((s.2.2.2.1[s.1.1.toNat]?).bind λx51=>iteP (0<=x50/\x50< (s.2.2.2.1.length:Int)) ((s.2.2.2.1[x50.toNat]?).bind λx52=>some (.inl ((s.1.1,(),(),(),s.1.2.2.2.2.1,(IntKind.wrap .i64 (s.1.2.2.2.2.2.1+1)),()),s.2.1,s.2.2.1,(s.2.2.2.1.set x50.toNat (⟨x52.up,x52.intact,x52.version,x52.epoch,x52.config,x52.first,x52.log,((x51.log.length:Nat):Int),x52.learned⟩:qj)),s.2.2.2.2))) none) none) none) (some (.inr (((),(),s.1.2.2.2.2.1,()),s.2.1,s.2.2.2)))) (some (.inr (((),(),s.1.2.2.2.2.1,()),s.2.1,s.2.2.2)))
def OI:=nw GV
def OO[dE] :=Ie Tryz.f90 [1] LO GV [] [] (by kernel_rfl) λs=>by simp only[GV,tm];kernel_rfl
def F7(a0:qg)(a1:Int):Option (qg×Bool×Unit):=
 (EN a0).bind λy1=>(Gn a0 a1).bind λy2=>br (!y2.1) (some (y1.1,false,())) (iteP (0<=a1) ((a0.servers[a1.toNat]?).bind λx3=>(EI x3.config).bind λy4=>(O8 ((a1,(),(),(),true,0,()),((0,(),(),(),0,0,0,0,0,(),()),(y1.1.now,(),(),(),y1.1.master.activated,y1.1.masterUp,y1.1.lease.epoch,y1.1.lease.holder,y1.1.lease.ends,(),()),()),y4.1,y1.1.servers,y1.1.sides,y1.1.master.configs,y1.1.places,())).bind λe29=>(OI ((e29.1.1,(),(),(),e29.1.2.2.2.2.1,0,()),e29.2)).bind λe54=>some ((⟨e54.2.1.2.1.1,e54.2.2.1,e54.2.2.2.1,(⟨e54.2.2.2.2.1,e54.2.1.2.1.2.2.2.2.1⟩:jY),e54.2.1.2.1.2.2.2.2.2.1,(⟨e54.2.1.2.1.2.2.2.2.2.2.1,e54.2.1.2.1.2.2.2.2.2.2.2.1,e54.2.1.2.1.2.2.2.2.2.2.2.2.1⟩:uK),e54.2.2.2.2.2.1⟩:qg),e54.1.2.2)) none)
def Ng[dE] :=E0 90 Tryz.f90 Mn [.st .cluster,.b] (λx=>F7 x.1 x.2.1) [Fi,Le,Jo] [Pi,OO] (by kernel_rfl) λx=>by simp only[F7,tm];kernel_rfl
def JZ(a0:List rj)(a1:Int):Option (Result×Bool×Unit):=
 (EL a0).bind λy1=>br (!y1.1) (some ((⟨false,0⟩:Result),false,())) ((Ei a1 0 (IntKind.wrap .i64 ((a0.length:Int)-1))).bind λy2=>br (!y2.1) (some ((⟨false,0⟩:Result),false,())) (iteP (0<=(0:Int)/\(0:Int)<=a1/\a1<=(a0.length:Int)) ((Ir ((a0.drop (0:Int).toNat).take (a1.toNat-(0:Int).toNat))).bind λy3=>iteP (0<=a1) ((a0[a1.toNat]?).bind λx4=>(JX y3.1 x4.op).bind λy5=>some (y5.2.1,y5.2.2.1,())) none) none))
def U1[dE] :=E0 91 Tryz.f91 YJ [.st .result,.b] (λx=>JZ x.1 x.2.1) [Ld,Fb,Nz,Pt] [] (by kernel_rfl) λx=>by simp only[JZ,tm];kernel_rfl
def I8(a0:qg)(a1:Int)(a2:Op):Option (qg×wR×Unit):=
 (FD a0 a1 a2).bind λy1=>br (!(y1.2.1==0)) (some (y1.1,(⟨y1.2.1,(⟨false,0⟩:Result),0⟩:wR),())) (iteP (0<=a1/\a1< (y1.1.servers.length:Int)) ((y1.1.servers[a1.toNat]?).bind λx2=>(y1.1.servers[a1.toNat]?).bind λx3=>iteP (0+x2.log.length<=x3.log.length) ((Kv ((x3.log.drop 0).take x2.log.length) a2.client a2.seq).bind λy4=>iteP (0<=a1/\a1< (y1.1.servers.length:Int)) ((y1.1.servers[a1.toNat]?).bind λx5=>br (decide (y4.1≥x5.commit)) ((F7 y1.1 a1).bind λy6=>br (!y6.2.1) (some (y6.1,(⟨4,(⟨false,0⟩:Result),0⟩:wR),())) (iteP (0<=a1/\a1< (y6.1.servers.length:Int)) ((y6.1.servers[a1.toNat]?).bind λx20=>(y6.1.servers[a1.toNat]?).bind λx21=>iteP (0+x20.log.length<=x21.log.length) ((JZ ((x21.log.drop 0).take x20.log.length) y4.1).bind λy22=>some (y6.1,(⟨0,y22.1,y4.1⟩:wR),())) none) none)) (iteP (0<=a1/\a1< (y1.1.servers.length:Int)) ((y1.1.servers[a1.toNat]?).bind λx23=>(y1.1.servers[a1.toNat]?).bind λx24=>iteP (0+x23.log.length<=x24.log.length) ((JZ ((x24.log.drop 0).take x23.log.length) y4.1).bind λy25=>some (y1.1,(⟨0,y25.1,y4.1⟩:wR),())) none) none)) none) none) none)
def UV[dE] :=E0 31 Tryz.f31 YI aah (λx=>I8 x.1 x.2.1 x.2.2.1) [O1,TR,Ng,U1] [] (by kernel_rfl) λx=>by simp only[I8,tm];kernel_rfl
def Jn(a0:qg)(a1:Int):Option (Int×Unit):=
 (Ea a0).bind λy1=>br (!y1.1) (some (1,())) ((Ei a1 0 4).bind λy2=>br (!y2.1) (some (1,())) (iteP (0<=a1) ((a0.servers[a1.toNat]?).bind λx3=>br (!x3.up) (some (2,())) (some (0,()))) none))
def P0[dE] :=E0 164 Tryz.f164 Mn KJ (λx=>Jn x.1 x.2.1) [Ek,Fb] [] (by kernel_rfl) λx=>by simp only[Jn,tm];kernel_rfl
def JA(a0:uK)(a1:Int)(a2:Int)(a3:Int):Option (Bool×Unit):=
 (FF a0).bind λy1=>br y1.1 ((Ei a3 0 999).bind λy2=>br y2.1 (br (decide (a0.ends>0)) (br (a0.epoch==a1) (br (a0.holder==a2) (some ((decide ((IntKind.wrap .i64 (a3+3))<a0.ends)),())) (some (false,()))) (some (false,()))) (some (false,()))) (some (false,()))) (some (false,()))
def S4[dE] :=E0 217 Tryz.f217 [.ty (.st .lease),.ty (.i .i64),.ty (.i .i64),.ty (.i .i64)] [.b] (λx=>JA x.1 x.2.1 x.2.2.1 x.2.2.2.1) [MD,Fb] [] (by kernel_rfl) λx=>by simp only[JA,tm];kernel_rfl
def HB(a0:qg)(a1:Int):Option (Bool×Unit):=
 (Gn a0 a1).bind λy1=>br y1.1 (iteP (0<=a1) ((a0.servers[a1.toNat]?).bind λx2=>(JA a0.lease x2.config.epoch a1 a0.now).bind λy3=>some (y3.1,())) none) (some (false,()))
def Pv[dE] :=E0 165 Tryz.f165 Mn [.b] (λx=>HB x.1 x.2.1) [Le,S4] [] (by kernel_rfl) λx=>by simp only[HB,tm];kernel_rfl
def EE(a0:qj):Option ((List rj)×Unit):=
 (Ei a0.commit a0.first (IntKind.wrap .i64 (a0.first+(a0.log.length:Int)))).bind λy1=>br (!y1.1) (some (([]:List rj),())) (br (decide (a0.first<0)) (some (([]:List rj),())) (iteP (0<=(0:Int)/\(0:Int)<=(IntKind.wrap .i64 (a0.commit-a0.first))/\(IntKind.wrap .i64 (a0.commit-a0.first))<=(a0.log.length:Int)) ((FC ((a0.log.drop (0:Int).toNat).take ((IntKind.wrap .i64 (a0.commit-a0.first)).toNat-(0:Int).toNat))).bind λy2=>some (y2.1,())) none))
def I4[dE] :=E0 18 Tryz.f18 Ug Vb (λx=>EE x.1) [Fb,IV] [] (by kernel_rfl) λx=>by simp only[EE,tm];kernel_rfl
def JD(a0:nn)(a1:Int):Option (Int×Bool×Unit):=
 (FN a0).bind λy1=>br (!y1.1) (some (0,false,())) ((Ei a1 0 2).bind λy2=>br (!y2.1) (some (0,false,())) (iteP (0<=a1) ((a0.objects[a1.toNat]?).bind λx3=>some (x3,true,())) none))
def Tb[dE] :=E0 218 Tryz.f218 YH [.i .i64,.b] (λx=>JD x.1 x.2.1) [ME,Fb] [] (by kernel_rfl) λx=>by simp only[JD,tm];kernel_rfl
def Lt(a0:qj)(a1:Int):Option (wR×Unit):=
 (EE a0).bind λy1=>(Ir y1.1).bind λy2=>(JD y2.1 a1).bind λy3=>some ((⟨0,(⟨true,y3.1⟩:Result),a0.commit⟩:wR),())
def U2[dE] :=E0 166 Tryz.f166 Uk [.st .reply] (λx=>Lt x.1 x.2.1) [I4,Nz,Tb] [] (by kernel_rfl) λx=>by simp only[Lt,tm];kernel_rfl
def Ky(a0:qg)(a1:Int)(a2:Int):Option (wR×Unit):=
 (Jn a0 a1).bind λy1=>br (!(y1.1==0)) (some ((⟨y1.1,(⟨false,0⟩:Result),0⟩:wR),())) ((Ei a2 0 2).bind λy2=>br (!y2.1) (some ((⟨1,(⟨false,0⟩:Result),0⟩:wR),())) (iteP (0<=a1) ((a0.servers[a1.toNat]?).bind λx3=>(Er x3 a1).bind λy4=>br (!y4.1) (some ((⟨3,(⟨false,0⟩:Result),0⟩:wR),())) ((HB a0 a1).bind λy5=>br (!y5.1) (some ((⟨7,(⟨false,0⟩:Result),0⟩:wR),())) (iteP (0<=a1) ((a0.servers[a1.toNat]?).bind λx6=>(Lt x6 a2).bind λy7=>some (y7.1,())) none))) none))
def TU[dE] :=E0 99 Tryz.f99 R6 [.st .reply] (λx=>Ky x.1 x.2.1 x.2.2.1) [P0,Fb,Iu,Pv,U2] [] (by kernel_rfl) λx=>by simp only[Ky,tm];kernel_rfl
def J0(a0:uK):Option (Int×Unit):=
 (FF a0).bind λy1=>br (!y1.1) (some (0,())) (br (a0.ends==0) (some (0,())) (some ((IntKind.wrap .i64 (a0.ends+3)),())))
def Q0[dE] :=E0 236 Tryz.f236 W6 KJ (λx=>J0 x.1) [MD] [] (by kernel_rfl) λx=>by simp only[J0,tm];kernel_rfl
def Hq(a0:uK)(a1:Int):Option (Bool×Unit):=
 (FF a0).bind λy1=>br y1.1 ((Ei a1 0 999).bind λy2=>br y2.1 ((J0 a0).bind λy3=>some ((decide (a1≥y3.1)),())) (some (false,()))) (some (false,()))
def Ok[dE] :=E0 225 Tryz.f225 [.ty (.st .lease),.ty (.i .i64)] [.b] (λx=>Hq x.1 x.2.1) [MD,Fb,Q0] [] (by kernel_rfl) λx=>by simp only[Hq,tm];kernel_rfl
def HP(a0:uK)(a1:Int)(a2:Int)(a3:Int)(a4:Int):Option (uK×Bool×Unit):=
 br (a0.epoch==a1) ((FF a0).bind λy1=>br (!y1.1) (some (a0,false,())) ((Ei a1 1 20).bind λy2=>br (!y2.1) (some (a0,false,())) ((Ei a2 0 4).bind λy3=>br (!y3.1) (some (a0,false,())) ((Ei a3 0 999).bind λy4=>br (!y4.1) (some (a0,false,())) ((Ei a4 1 50).bind λy5=>br (!y5.1) (some (a0,false,())) ((Hq a0 a3).bind λy6=>br (!y6.1) (br (!(a0.holder==a2)) (some (a0,false,())) (br (a0.holder==a2) (some ((⟨a1,a2,(if a0.ends>(IntKind.wrap .i64 (a3+a4)) then a0.ends else (IntKind.wrap .i64 (a3+a4)))⟩:uK),true,())) (some ((⟨a1,a2,(IntKind.wrap .i64 (a3+a4))⟩:uK),true,())))) (br (a0.holder==a2) (some ((⟨a1,a2,(if a0.ends>(IntKind.wrap .i64 (a3+a4)) then a0.ends else (IntKind.wrap .i64 (a3+a4)))⟩:uK),true,())) (some ((⟨a1,a2,(IntKind.wrap .i64 (a3+a4))⟩:uK),true,()))))))))) ((FF a0).bind λy10=>br (!y10.1) (some (a0,false,())) ((Ei a1 1 20).bind λy11=>br (!y11.1) (some (a0,false,())) ((Ei a2 0 4).bind λy12=>br (!y12.1) (some (a0,false,())) ((Ei a3 0 999).bind λy13=>br (!y13.1) (some (a0,false,())) ((Ei a4 1 50).bind λy14=>br (!y14.1) (some (a0,false,())) ((Hq a0 a3).bind λy15=>br (!y15.1) (br (!false) (some (a0,false,())) (some ((⟨a1,a2,(IntKind.wrap .i64 (a3+a4))⟩:uK),true,()))) (some ((⟨a1,a2,(IntKind.wrap .i64 (a3+a4))⟩:uK),true,()))))))))
def SZ[dE] :=E0 219 Tryz.f219 [.ty (.st .lease),.ty (.i .i64),.ty (.i .i64),.ty (.i .i64),.ty (.i .i64)] [.st .lease,.b] (λx=>HP x.1 x.2.1 x.2.2.1 x.2.2.2.1 x.2.2.2.2.1) [MD,Fb,Ok] [] (by kernel_rfl) λx=>by simp only[HP,tm];kernel_rfl
def F1(a0:qg)(a1:Int)(a2:Int):Option (qg×Int×Unit):=
 (EN a0).bind λy1=>(Jn a0 a1).bind λy2=>br (!(y2.1==0)) (some (y1.1,y2.1,())) (iteP (0<=a1) ((a0.servers[a1.toNat]?).bind λx3=>(Er x3 a1).bind λy4=>br (!y4.1) (some (y1.1,3,())) (br (decide ((IntKind.wrap .i64 (a0.masterUp*2))<=3)) (some (y1.1,8,())) (iteP (0<=a1) ((a0.sides[a1.toNat]?).bind λx5=>br (!(x5==0)) (some (y1.1,8,())) (br (!(x3.config.epoch==(a0.master.configs.length:Int))) (some (y1.1,11,())) ((HP a0.lease x3.config.epoch a1 a0.now a2).bind λy6=>br (!y6.2.1) (some (y1.1,7,())) (some ((⟨y1.1.now,y1.1.servers,y1.1.sides,y1.1.master,y1.1.masterUp,y6.1,y1.1.places⟩:qg),0,()))))) none))) none)
def O4[dE] :=E0 167 Tryz.f167 R6 Od (λx=>F1 x.1 x.2.1 x.2.2.1) [Fi,P0,Iu,SZ] [] (by kernel_rfl) λx=>by simp only[F1,tm];kernel_rfl
abbrev OB:LX:=⟨⟨[Jq,Sw,Ma],[Jr],Iv,0,28⟩,[(.ext 0,⟨[Sw],[],Iv,0,28⟩)],[],[1,3,4],[3]⟩
def H6(s:Yb×(MO×Unit)×List Int×Unit):OB.R:=
 br (decide (s.1.2.2.1< (s.2.1.1.2.1.length:Int))) ((Ea (⟨s.2.1.1.1,s.2.1.1.2.1,s.2.1.1.2.2.1,(⟨s.2.1.1.2.2.2.1,s.2.1.1.2.2.2.2.1⟩:jY),s.2.1.1.2.2.2.2.2.1,(⟨s.2.1.1.2.2.2.2.2.2.1,s.2.1.1.2.2.2.2.2.2.2.1,s.2.1.1.2.2.2.2.2.2.2.2.1⟩:uK),s.2.1.1.2.2.2.2.2.2.2.2.2.1⟩:qg)).bind λy13=>br y13.1 (iteP (0<=s.1.2.2.1) ((s.2.1.1.2.1[s.1.2.2.1.toNat]?).bind λx14=>br x14.up (iteP ((s.2.2.1++([s.1.2.2.1]:List Int)).length*8<=2 ^ 40) (some (.inl (((),(),(IntKind.wrap .i64 (s.1.2.2.1+1)),()),s.2.1,(s.2.2.1++([s.1.2.2.1]:List Int)),()))) none) (some (.inl (((),(),(IntKind.wrap .i64 (s.1.2.2.1+1)),()),s.2)))) none) (some (.inr (((),()),(()),s.2.2)))) (some (.inr (((),()),(()),s.2.2)))
def Ol:=nw H6
def So[dE] :=Ie Tryz.f252 [0] OB H6 [Ek] [] (by kernel_rfl) λs=>by simp only[H6,tm];kernel_rfl
def KC(a0:qg):Option ((List Int)×Unit):=
 (Ol (((),(),0,()),((a0.now,a0.servers,a0.sides,a0.master.configs,a0.master.activated,a0.masterUp,a0.lease.epoch,a0.lease.holder,a0.lease.ends,a0.places,()),()),([]:List Int),())).bind λe16=>some e16.2.2
def Ua[dE] :=E0 252 Tryz.f252 R5 Nb (λx=>KC x.1) [] [So] (by kernel_rfl) λx=>by simp only[KC,tm];kernel_rfl
abbrev NU:LX:=⟨⟨[NN,Sw,Ma],[],Iv,0,26⟩,[(.ext 0,⟨[Sw],[],Iv,0,26⟩)],[],[0,3,4],[3]⟩
def Hw(s:YZ×Unit×List Int×Unit):NU.R:=
 br (decide (s.1.2.2.1< (s.1.1.length:Int))) ((Fj s.1.1).bind λy4=>br y4.1 (iteP (0<=s.1.2.2.1) ((s.1.1[s.1.2.2.1.toNat]?).bind λx5=>br (x5==0) (iteP ((s.2.2.1++([s.1.2.2.1]:List Int)).length*8<=2 ^ 40) (some (.inl ((s.1.1,(),(IntKind.wrap .i64 (s.1.2.2.1+1)),()),(()),(s.2.2.1++([s.1.2.2.1]:List Int)),()))) none) (some (.inl ((s.1.1,(),(IntKind.wrap .i64 (s.1.2.2.1+1)),()),(()),s.2.2)))) none) (some (.inr (((),()),(()),s.2.2)))) (some (.inr (((),()),(()),s.2.2)))
def NI:=nw Hw
def Rv[dE] :=Ie Tryz.f253 [0] NU Hw [M5] [] (by kernel_rfl) λs=>by simp only[Hw,tm];kernel_rfl
def JB(a0:List Int):Option ((List Int)×Unit):=
 (NI ((a0,(),0,()),(()),([]:List Int),())).bind λe7=>some e7.2.2
def S7[dE] :=E0 253 Tryz.f253 U9 Nb (λx=>JB x.1) [] [Rv] (by kernel_rfl) λx=>by simp only[JB,tm];kernel_rfl
def Lu(a0:qg):Option ((List Int)×Unit):=
 (KC a0).bind λy1=>(JB a0.sides).bind λy2=>(GD y1.1 y2.1).bind λy3=>some (y3.1,())
def U3[dE] :=E0 220 Tryz.f220 R5 Nb (λx=>Lu x.1) [Ua,S7,KN] [] (by kernel_rfl) λx=>by simp only[Lu,tm];kernel_rfl
abbrev LW:LX:=⟨⟨[NN,Pa,MN,NM],[],Iv,0,28⟩,[(.ext 0,⟨[MN],[],Iv,0,28⟩)],[],[0,1,5,6],[5]⟩
def Gi(s:ZD×Unit×List Int×Unit):LW.R:=
 br (decide (s.1.2.2.2.1< (s.1.1.length:Int))) (iteP (0<=s.1.2.2.2.1) ((s.1.1[s.1.2.2.2.1.toNat]?).bind λx5=>(EZ s.1.2.1 x5).bind λy6=>br (!y6.1) (iteP (0<=s.1.2.2.2.1) ((s.1.1[s.1.2.2.2.1.toNat]?).bind λx7=>(Ig s.2.2.1 x7).bind λy8=>some (.inl ((s.1.1,s.1.2.1,(),(IntKind.wrap .i64 (s.1.2.2.2.1+1)),()),(()),y8.1,()))) none) (some (.inl ((s.1.1,s.1.2.1,(),(IntKind.wrap .i64 (s.1.2.2.2.1+1)),()),(()),s.2.2)))) none) (some (.inr (((),()),(()),s.2.2)))
def LH:=nw Gi
def OU[dE] :=Ie Tryz.f223 [0] LW Gi [GM,N9] [] (by kernel_rfl) λs=>by simp only[Gi,tm];kernel_rfl
def Gk(a0:List Int)(a1:List Int):Option ((List Int)×Unit):=
 (LH ((a0,a1,(),0,()),(()),([]:List Int),())).bind λe10=>some e10.2.2
def MG[dE] :=E0 223 Tryz.f223 Uj Nb (λx=>Gk x.1 x.2.1) [] [OU] (by kernel_rfl) λx=>by simp only[Gk,tm];kernel_rfl
abbrev P6:LX:=⟨⟨[Rb,Pa,MN,NM],[],Iv,0,33⟩,[(.ext 0,⟨[MN],[],Iv,0,33⟩)],[],[0,1,5,6],[5]⟩
def L4(s: (List uN×List Int×Unit×Int×Unit)×Unit×List Int×Unit):P6.R:=
 br (decide (s.1.2.2.2.1< (s.1.2.1.length:Int))) ((ES s.1.1).bind λy5=>br y5.1 ((Fz s.1.2.1).bind λy6=>br y6.1 (iteP (0<=s.1.2.2.2.1) ((s.1.2.1[s.1.2.2.2.1.toNat]?).bind λx7=>iteP (0<=x7) ((s.1.1[x7.toNat]?).bind λx8=>(Ig s.2.2.1 x8.rack).bind λy9=>some (.inl ((s.1.1,s.1.2.1,(),(IntKind.wrap .i64 (s.1.2.2.2.1+1)),()),(()),y9.1,()))) none) none) (some (.inr (((),()),(()),s.2.2)))) (some (.inr (((),()),(()),s.2.2)))) (some (.inr (((),()),(()),s.2.2)))
def Uf:=nw L4
def Uu[dE] :=Ie Tryz.f254 [0] P6 L4 [KF,Lc,N9] [] (by kernel_rfl) λs=>by simp only[L4,tm];kernel_rfl
def MA(a0:List uN)(a1:List Int):Option ((List Int)×Unit):=
 (Uf ((a0,a1,(),0,()),(()),([]:List Int),())).bind λe10=>some e10.2.2
def Wd[dE] :=E0 254 Tryz.f254 [.ty (.ls (.st .place)),.ty (.ls (.i .i64))] Nb (λx=>MA x.1 x.2.1) [] [Uu] (by kernel_rfl) λx=>by simp only[MA,tm];kernel_rfl
def Mz(a0:List uN)(a1:Int):Option (Bool×Unit):=
 (ES a0).bind λy1=>br y1.1 ((Ei a1 0 4).bind λy2=>br y2.1 (iteP (0<=a1) ((a0[a1.toNat]?).bind λx3=>iteP (0<=a1) ((a0[a1.toNat]?).bind λx4=>some ((decide (x3.load<x4.capacity)),())) none) none) (some (false,()))) (some (false,()))
def Wc[dE] :=E0 255 Tryz.f255 [.ty (.ls (.st .place)),.ty (.i .i64)] [.b] (λx=>Mz x.1 x.2.1) [KF,Fb] [] (by kernel_rfl) λx=>by simp only[Mz,tm];kernel_rfl
def Lx(a0:List uN)(a1:List Int)(a2:Int)(a3:Int):Option (Bool×Unit):=
 iteP (0<=a2) ((a0[a2.toNat]?).bind λx1=>(EZ a1 x1.rack).bind λy2=>iteP (0<=a3) ((a0[a3.toNat]?).bind λx3=>(EZ a1 x3.rack).bind λy4=>br (!(y2.1==y4.1)) (some (y4.1,())) (iteP (0<=a2) ((a0[a2.toNat]?).bind λx5=>iteP (0<=a3) ((a0[a3.toNat]?).bind λx6=>some ((decide (x5.load<x6.load)),())) none) none)) none) none
def U5[dE] :=E0 256 Tryz.f256 [.ty (.ls (.st .place)),.ty (.ls (.i .i64)),.ty (.i .i64),.ty (.i .i64)] [.b] (λx=>Lx x.1 x.2.1 x.2.2.1 x.2.2.2.1) [GM] [] (by kernel_rfl) λx=>by simp only[Lx,tm];kernel_rfl
abbrev Mu:LX:=⟨⟨[Rb,Pa,(2,.cl (.ro (.i .i64))),OL,VD,(9,.cl (.int .i64))],[],Iv,0,46⟩,[(.ext 0,⟨[OL],[],[],0,46⟩)],[],[0,1,2,7,8,9],[7]⟩
def Kf(s: (List uN×List Int×List Int×Int×Unit×Int×Unit)×Unit×List Int×Unit):Mu.R:=
 br (decide (s.1.2.2.2.2.2.1<5)) ((Fz s.1.2.1).bind λy8=>br y8.1 ((Mz s.1.1 s.1.2.2.2.2.2.1).bind λy9=>let j14 (p13:Int):Mu.R:=some (.inl ((s.1.1,s.1.2.1,s.1.2.2.1,p13,(),(IntKind.wrap .i64 (s.1.2.2.2.2.2.1+1)),()),(()),s.2.2));br (!y9.1) (j14 s.1.2.2.2.1) ((EZ s.1.2.1 s.1.2.2.2.2.2.1).bind λy10=>br y10.1 (j14 s.1.2.2.2.1) ((EZ s.1.2.2.1 s.1.2.2.2.2.2.1).bind λy11=>br y11.1 (j14 s.1.2.2.2.1) (br (decide (s.1.2.2.2.1<0)) (j14 s.1.2.2.2.2.2.1) ((Lx s.1.1 s.2.2.1 s.1.2.2.2.2.2.1 s.1.2.2.2.1).bind λy12=>br y12.1 (j14 s.1.2.2.2.2.2.1) (j14 s.1.2.2.2.1)))))) (some (.inr ((s.1.2.2.2.1,()),(()),(()))))) (some (.inr ((s.1.2.2.2.1,()),(()),(()))))
def R1:=nw Kf
def Sg[dE] :=Ie Tryz.f222 [0] Mu Kf [Lc,Wc,GM,U5] [] (by kernel_rfl) λs=>by simp only[Kf,tm];kernel_rfl
def Jl(a0:List uN)(a1:List Int)(a2:List Int):Option (Int×Unit):=
 (MA a0 a1).bind λy1=>(R1 ((a0,a1,a2,(-1),(),0,()),(()),y1.1,())).bind λe15=>some e15.1
def PZ[dE] :=E0 222 Tryz.f222 [.ty (.ls (.st .place)),.ty (.ls (.i .i64)),.ty (.ls (.i .i64))] KJ (λx=>Jl x.1 x.2.1 x.2.2.1) [Wd] [Sg] (by kernel_rfl) λx=>by simp only[Jl,tm];kernel_rfl
abbrev Nq:LX:=⟨⟨[Rb,M9,Xb,(10,.cl (.own 1 (.i .i64)))],[],Xo,0,52⟩,[(.ret,⟨[VD,Xb],[],Iv,0,52⟩),(.ext 0,⟨[(8,.cl (.dead)),Xb],[],Iv,0,52⟩)],[],[0,3,9,10],[8,9]⟩
def I0(s: (List uN×Int×Unit×Unit×Unit)×Unit×List Int×List Int×Unit):Nq.R:=
 br (decide ((s.2.2.1.length:Int)<s.1.2.1)) ((Jl s.1.1 s.2.2.1 s.2.2.2.1).bind λy11=>br (decide (y11.1<0)) (some (.inr (.inl (((),(),()),(()),s.2.2.1,())))) ((Ig s.2.2.1 y11.1).bind λy12=>some (.inl (s.1,(()),y12.1,s.2.2.2)))) (some (.inr (.inr (((),(),()),(()),s.2.2.1,()))))
def Qp:=nw I0
def Qx[dE] :=Ie Tryz.f221 [0] Nq I0 [PZ,N9] [] (by kernel_rfl) λs=>by simp only[I0,tm];kernel_rfl
def IR(a0:List uN)(a1:List Int)(a2:List Int)(a3:Int):Option ((List Int)×Unit):=
 (GD a1 a2).bind λy1=>(Gk ([0,1,2,3,4]:List Int) a2).bind λy2=>(ES a0).bind λy3=>br (!y3.1) (some (([]:List Int),())) ((Fz a1).bind λy4=>br (!y4.1) (some (([]:List Int),())) ((Fz a2).bind λy5=>br (!y5.1) (some (([]:List Int),())) ((Ei a3 0 5).bind λy6=>br (!y6.1) (some (([]:List Int),())) ((Qp ((a0,a3,(),(),()),(()),y1.1,y2.1,())).bind λe13=>Sum.elim (λe13_0=>some e13_0.2.2) (λe13_1=>some e13_1.2.2) e13))))
def RT[dE] :=E0 221 Tryz.f221 [.ty (.ls (.st .place)),.ty (.ls (.i .i64)),.ty (.ls (.i .i64)),.ty (.i .i64)] Nb (λx=>IR x.1 x.2.1 x.2.2.1 x.2.2.2.1) [KN,MG,KF,Lc,Fb] [Qx] (by kernel_rfl) λx=>by simp only[IR,tm];kernel_rfl
abbrev LS:LX:=⟨⟨[KI,Pb,Rd,LL,VD,(9,.cl (.ptr 2 0)),YU,Pc],[Jr,Y8,Y9],aaj,0,132⟩,[(.ext 0,⟨[KI,Pb,Rd,LL,VD,(9,.cl (.ptr 2 0)),YU],[Jr,Y8,Y9],aaj,0,132⟩)],[],[1,2,3,6,8,9,11,12],[1,2,3,6,8,9,11]⟩
def Jw(s: (Int×Int×Unit×Unit×Unit×Unit×Unit×Int×Unit)×(MO×PF×PF×Unit)×List Int×List Int×List Int×List Int×Unit):LS.R:=
 br (decide (s.1.2.2.2.2.2.2.2.1< (s.2.2.2.2.1.length:Int))) (iteP (0<=s.1.2.2.2.2.2.2.2.1/\s.1.2.2.2.2.2.2.2.1< (s.2.2.2.2.1.length:Int)) ((s.2.2.2.2.1[s.1.2.2.2.2.2.2.2.1.toNat]?).bind λx27=>(EZ s.2.2.1 x27).bind λy28=>let j33 (p32:List Int):LS.R:=some (.inl ((s.1.1,s.1.2.1,(),(),(),(),(),(IntKind.wrap .i64 (s.1.2.2.2.2.2.2.2.1+1)),()),s.2.1,s.2.2.1,p32,s.2.2.2.2));br y28.1 (iteP (0<=s.1.2.2.2.2.2.2.2.1/\s.1.2.2.2.2.2.2.2.1< (s.2.2.2.2.1.length:Int)) ((s.2.2.2.2.1[s.1.2.2.2.2.2.2.2.1.toNat]?).bind λx29=>iteP (0<=x29) ((s.2.1.1.2.1[x29.toNat]?).bind λx30=>br (x30.config.epoch==s.2.1.2.2.1.1) (iteP (0<=s.1.2.2.2.2.2.2.2.1/\s.1.2.2.2.2.2.2.2.1< (s.2.2.2.2.1.length:Int)) ((s.2.2.2.2.1[s.1.2.2.2.2.2.2.2.1.toNat]?).bind λx31=>iteP ((s.2.2.2.1++([x31]:List Int)).length*8<=2 ^ 40) (j33 (s.2.2.2.1++([x31]:List Int))) none) none) (j33 s.2.2.2.1)) none) none) (j33 s.2.2.2.1)) none) (some (.inr ((s.1.1,s.1.2.1,(),(),(),(),(),()),s.2)))
def Ra:=nw Jw
def Ry[dE] :=Ie Tryz.f168 [0] LS Jw [GM] [] (by kernel_rfl) λs=>by simp only[Jw,tm];kernel_rfl
def IH(a0:qg)(a1:Int)(a2:Int):Option (nE×Bool×Unit):=
 (Ea a0).bind λy1=>br (!y1.1) (some ((⟨0,0,([]:List Int),([]:List Int)⟩:nE),false,())) ((Ei a1 1 3).bind λy2=>br (!y2.1) (some ((⟨0,0,([]:List Int),([]:List Int)⟩:nE),false,())) ((Ei a2 0 1).bind λy3=>br (!y3.1) (some ((⟨0,0,([]:List Int),([]:List Int)⟩:nE),false,())) (br ((a0.master.configs.length:Int)==20) (some ((⟨0,0,([]:List Int),([]:List Int)⟩:nE),false,())) ((Lu a0).bind λy4=>(Ef a0.master).bind λy5=>(Ra ((a1,a2,(),(),(),(),(),0,()),((a0.now,a0.servers,a0.sides,a0.master.configs,a0.master.activated,a0.masterUp,a0.lease.epoch,a0.lease.holder,a0.lease.ends,a0.places,()),(0,0,(),(),()),(y5.1.epoch,y5.1.primary,(),(),()),()),y4.1,([]:List Int),y5.1.replicas,y5.1.witnesses,())).bind λe34=>(IR e34.2.1.1.2.2.2.2.2.2.2.2.2.1 e34.2.2.2.1 e34.2.2.1 e34.1.1).bind λy35=>br ((y35.1.length:Int)==0) (some ((⟨0,0,([]:List Int),([]:List Int)⟩:nE),false,())) (iteP (0<=(0:Int)/\(0:Int)< (y35.1.length:Int)) ((y35.1[(0:Int).toNat]?).bind λx36=>(EZ y35.1 e34.2.1.2.2.1.2.1).bind λy37=>let j43 (p39:Int):Option (nE×Bool×Unit):=br (e34.1.2.1==1) ((Gk ([0,1,2,3,4]:List Int) e34.2.2.1).bind λy40=>(Jl e34.2.1.1.2.2.2.2.2.2.2.2.2.1 y35.1 y40.1).bind λy41=>br (decide (y41.1≥0)) (some ((⟨(IntKind.wrap .i64 ((e34.2.1.1.2.2.2.1.length:Int)+1)),p39,y35.1,([y41.1]:List Int)⟩:nE),true,())) (some ((⟨(IntKind.wrap .i64 ((e34.2.1.1.2.2.2.1.length:Int)+1)),p39,y35.1,([]:List Int)⟩:nE),true,()))) (some ((⟨(IntKind.wrap .i64 ((e34.2.1.1.2.2.2.1.length:Int)+1)),p39,y35.1,([]:List Int)⟩:nE),true,()));br y37.1 ((Ic (⟨e34.2.1.2.2.1.1,e34.2.1.2.2.1.2.1,e34.2.2.2.2.1,e34.2.2.2.2.2.1⟩:nE)).bind λy38=>br (!y38.1) (j43 e34.2.1.2.2.1.2.1) (j43 x36)) (j43 x36)) none)))))
def O3[dE] :=E0 168 Tryz.f168 R6 Wm (λx=>IH x.1 x.2.1 x.2.2.1) [Ek,Fb,U3,Fx,GM,RT,N8,MG,PZ] [Ry] (by kernel_rfl) λx=>by simp only[IH,tm];kernel_rfl
def GF(a0:jY)(a1:nE):Option (jY×Bool×Unit):=
 (J1 a0).bind λy1=>(Eo a0).bind λy2=>br (!y2.1) (some (y1.1,false,())) ((Eg a1).bind λy3=>br (!y3.1) (some (y1.1,false,())) (br (!(a1.epoch==(IntKind.wrap .i64 ((a0.configs.length:Int)+1)))) (some (y1.1,false,())) ((GW a1).bind λy4=>iteP ((y1.1.configs++([y4.1]:List nE)).length*64<=2 ^ 40) (some ((⟨(y1.1.configs++([y4.1]:List nE)),y1.1.activated⟩:jY),true,())) none)))
def Qi[dE] :=E0 195 Tryz.f195 [.ty (.st .masterLog),.ty (.st .config)] [.st .masterLog,.b] (λx=>GF x.1 x.2.1) [Px,Km,I5,NB] [] (by kernel_rfl) λx=>by simp only[GF,tm];kernel_rfl
def FQ(a0:qg)(a1:nE):Option (qg×Int×Unit):=
 (EN a0).bind λy1=>(Ea a0).bind λy2=>br (!y2.1) (some (y1.1,1,())) (br (decide ((IntKind.wrap .i64 (a0.masterUp*2))<=3)) (some (y1.1,8,())) ((GF a0.master a1).bind λy3=>br (!y3.2.1) (some (y1.1,1,())) (some ((⟨y1.1.now,y1.1.servers,y1.1.sides,y3.1,y1.1.masterUp,y1.1.lease,y1.1.places⟩:qg),0,()))))
def Mg[dE] :=E0 169 Tryz.f169 [.ty (.st .cluster),.ty (.st .config)] Od (λx=>FQ x.1 x.2.1) [Fi,Ek,Qi] [] (by kernel_rfl) λx=>by simp only[FQ,tm];kernel_rfl
def GK(a0:jY):Option (nE×Bool×Unit):=
 (Fm a0 (a0.configs.length:Int)).bind λy1=>some (y1.1,y1.2.1,())
def S6[dE] :=E0 224 Tryz.f224 Wl Wm (λx=>GK x.1) [OH] [] (by kernel_rfl) λx=>by simp only[GK,tm];kernel_rfl
def F2(a0:qj)(a1:Int):Option (qj×Bool×Unit):=
 (G8 a0).bind λy1=>(Ei a1 1 20).bind λy2=>br (!y2.1) (some (y1.1,false,())) (br (decide (a1<=a0.epoch)) (some (y1.1,false,())) (br (decide (a0.epoch<0)) (some (y1.1,false,())) (some ((⟨y1.1.up,y1.1.intact,y1.1.version,a1,y1.1.config,y1.1.first,y1.1.log,y1.1.commit,y1.1.learned⟩:qj),true,()))))
def Tc[dE] :=E0 202 Tryz.f202 Uk [.st .server,.b] (λx=>F2 x.1 x.2.1) [Py,Fb] [] (by kernel_rfl) λx=>by simp only[F2,tm];kernel_rfl
abbrev KS:LX:=⟨⟨[KI,Pb,Rd,LL,(7,.cl (.ptr 2 0)),(10,.cl (.own 0 (.i .i64))),VE],[Jr,MP,Ve],Yf,0,85⟩,[(.ext 0,⟨[(6,.cl (.ptr 0 0)),(7,.cl (.ptr 1 0))],[MP,R7],Up,0,85⟩)],[],[1,2,3,6,7,10,11],[6,7]⟩
def EX(s: (Int×Int×Unit×Unit×Unit×Unit×Int×Unit)×(MO×Mq×Mq×Unit)×List Int×List qj×List Int×List nE×List uN×Unit):KS.R:=
 br (decide (s.1.2.2.2.2.2.2.1< (s.2.2.1.length:Int))) (iteP (0<=s.1.2.2.2.2.2.2.1/\s.1.2.2.2.2.2.2.1< (s.2.2.1.length:Int)) ((s.2.2.1[s.1.2.2.2.2.2.2.1.toNat]?).bind λx36=>iteP (0<=x36) ((s.2.1.1.2.1[x36.toNat]?).bind λx37=>let j47 (p46:List qj):KS.R:=some (.inl ((s.1.1,s.1.2.1,(),(),(),(),(IntKind.wrap .i64 (s.1.2.2.2.2.2.2.1+1)),()),s.2.1,s.2.2.1,p46,s.2.2.2.2));br x37.up (iteP (0<=s.1.2.2.2.2.2.2.1/\s.1.2.2.2.2.2.2.1< (s.2.2.1.length:Int)) ((s.2.2.1[s.1.2.2.2.2.2.2.1.toNat]?).bind λx38=>(EK s.2.1.1.2.2.1 s.1.1 x38).bind λy39=>br y39.1 (iteP (0<=s.1.2.2.2.2.2.2.1/\s.1.2.2.2.2.2.2.1< (s.2.2.1.length:Int)) ((s.2.2.1[s.1.2.2.2.2.2.2.1.toNat]?).bind λx40=>iteP (0<=s.1.2.2.2.2.2.2.1/\s.1.2.2.2.2.2.2.1< (s.2.2.1.length:Int)) ((s.2.2.1[s.1.2.2.2.2.2.2.1.toNat]?).bind λx41=>iteP (0<=x41) ((s.2.1.1.2.1[x41.toNat]?).bind λx42=>(F2 x42 s.1.2.1).bind λy43=>iteP (0<=x40/\x40< (s.2.2.2.1.length:Int)) ((s.2.2.2.1[x40.toNat]?).bind λ_=>j47 (s.2.2.2.1.set x40.toNat y43.1)) none) none) none) none) (j47 s.2.2.2.1)) none) (j47 s.2.2.2.1)) none) none) (some (.inr (((),(),()),s.2.1.2,s.2.2.2)))
def KQ:=nw EX
def Qy[dE] :=Ie Tryz.f226 [0] KS EX [J3,Tc] [] (by kernel_rfl) λs=>by simp only[EX,tm];kernel_rfl
def EO(a0:qg)(a1:Int)(a2:Int):Option (qg×Unit):=
 (EN a0).bind λy1=>(Ef a0.master).bind λy2=>(Ea a0).bind λy3=>br (!y3.1) (some (y1.1,())) (br (!y2.2.1) (some (y1.1,())) ((Ei a2 1 (a0.master.configs.length:Int)).bind λy4=>br (!y4.1) (some (y1.1,())) ((EI y2.1).bind λy5=>(KQ ((a1,a2,(),(),(),(),0,()),((a0.now,a0.servers,a0.sides,a0.master.configs,a0.master.activated,a0.masterUp,a0.lease.epoch,a0.lease.holder,a0.lease.ends,a0.places,()),(0,(),(),(),0,0,0,0,0,(),()),(y1.1.now,(),(),(),y1.1.master.activated,y1.1.masterUp,y1.1.lease.epoch,y1.1.lease.holder,y1.1.lease.ends,(),()),()),y5.1,y1.1.servers,y1.1.sides,y1.1.master.configs,y1.1.places,())).bind λe48=>some ((⟨e48.2.1.2.1.1,e48.2.2.1,e48.2.2.2.1,(⟨e48.2.2.2.2.1,e48.2.1.2.1.2.2.2.2.1⟩:jY),e48.2.1.2.1.2.2.2.2.2.1,(⟨e48.2.1.2.1.2.2.2.2.2.2.1,e48.2.1.2.1.2.2.2.2.2.2.2.1,e48.2.1.2.1.2.2.2.2.2.2.2.2.1⟩:uK),e48.2.2.2.2.2.1⟩:qg),()))))
def RV[dE] :=E0 226 Tryz.f226 R6 [.st .cluster] (λx=>EO x.1 x.2.1 x.2.2.1) [Fi,Fx,Ek,Fb,Jo] [Qy] (by kernel_rfl) λx=>by simp only[EO,tm];kernel_rfl
abbrev LV:LX:=⟨⟨[KI,Oc,MN,LL,Un,P3],[Jr,Xn],Za,0,74⟩,[(.ext 0,⟨[MN],[],Iv,0,74⟩)],[],[1,2,5,6,7,8],[5]⟩
def FG(s:Xh×(MO×PF×Unit)×List Int×List Int×List Int×Unit):LV.R:=
 br (decide (s.1.2.2.2.2.2.1< (s.2.2.2.1.length:Int))) (br s.1.2.2.2.2.1 ((Ea (⟨s.2.1.1.1,s.2.1.1.2.1,s.2.1.1.2.2.1,(⟨s.2.1.1.2.2.2.1,s.2.1.1.2.2.2.2.1⟩:jY),s.2.1.1.2.2.2.2.2.1,(⟨s.2.1.1.2.2.2.2.2.2.1,s.2.1.1.2.2.2.2.2.2.2.1,s.2.1.1.2.2.2.2.2.2.2.2.1⟩:uK),s.2.1.1.2.2.2.2.2.2.2.2.2.1⟩:qg)).bind λy20=>br y20.1 ((Ei s.1.1 0 4).bind λy21=>br y21.1 (iteP (0<=s.1.2.2.2.2.2.1/\s.1.2.2.2.2.2.1< (s.2.2.2.1.length:Int)) ((s.2.2.2.1[s.1.2.2.2.2.2.1.toNat]?).bind λx22=>iteP (0<=x22) ((s.2.1.1.2.1[x22.toNat]?).bind λx23=>let j28 (p27:List Int):LV.R:=some (.inl ((s.1.1,(),(),(),s.1.2.2.2.2.1,(IntKind.wrap .i64 (s.1.2.2.2.2.2.1+1)),()),s.2.1,p27,s.2.2.2));br x23.up (br (x23.config.epoch==s.2.1.2.1.1) (iteP (0<=s.1.2.2.2.2.2.1/\s.1.2.2.2.2.2.1< (s.2.2.2.1.length:Int)) ((s.2.2.2.1[s.1.2.2.2.2.2.1.toNat]?).bind λx24=>(EK s.2.1.1.2.2.1 s.1.1 x24).bind λy25=>br y25.1 (iteP (0<=s.1.2.2.2.2.2.1/\s.1.2.2.2.2.2.1< (s.2.2.2.1.length:Int)) ((s.2.2.2.1[s.1.2.2.2.2.2.1.toNat]?).bind λx26=>iteP ((s.2.2.1++([x26]:List Int)).length*8<=2 ^ 40) (j28 (s.2.2.1++([x26]:List Int))) none) none) (j28 s.2.2.1)) none) (j28 s.2.2.1)) (j28 s.2.2.1)) none) none) (some (.inr (((),()),(()),s.2.2.1,())))) (some (.inr (((),()),(()),s.2.2.1,())))) (some (.inr (((),()),(()),s.2.2.1,())))) (some (.inr (((),()),(()),s.2.2.1,())))
def JK:=nw FG
def Rz[dE] :=Ie Tryz.f16 [0] LV FG [Ek,Fb,J3] [] (by kernel_rfl) λs=>by simp only[FG,tm];kernel_rfl
def Fn(a0:qg)(a1:Int):Option ((List Int)×Unit):=
 (Ef a0.master).bind λy1=>(JK ((a1,(),(),(),y1.2.1,0,()),((a0.now,a0.servers,a0.sides,a0.master.configs,a0.master.activated,a0.masterUp,a0.lease.epoch,a0.lease.holder,a0.lease.ends,a0.places,()),(y1.1.epoch,y1.1.primary,(),(),()),()),([]:List Int),y1.1.replicas,y1.1.witnesses,())).bind λe29=>some e29.2.2
def Te[dE] :=E0 16 Tryz.f16 Mn Nb (λx=>Fn x.1 x.2.1) [Fx] [Rz] (by kernel_rfl) λx=>by simp only[Fn,tm];kernel_rfl
abbrev NS:LX:=⟨⟨[Oc,Na,(6,.cl (.own 0 (.i .i64))),OL],[Jr],Iv,0,44⟩,[(.ext 0,⟨[Na],[],[],0,44⟩)],[],[2,5,6,7],[5]⟩
def FU(s:Y0×(MO×Unit)×List Int×Unit):NS.R:=
 br (decide (s.1.2.2.2.1< (s.2.2.1.length:Int))) (br (decide (s.1.2.1<0)) (iteP (0<=s.1.2.2.2.1/\s.1.2.2.2.1< (s.2.2.1.length:Int)) ((s.2.2.1[s.1.2.2.2.1.toNat]?).bind λx15=>some (.inl (((),x15,(),(IntKind.wrap .i64 (s.1.2.2.2.1+1)),()),s.2))) none) (iteP (0<=s.1.2.2.2.1/\s.1.2.2.2.1< (s.2.2.1.length:Int)) ((s.2.2.1[s.1.2.2.2.1.toNat]?).bind λx16=>iteP (0<=x16) ((s.2.1.1.2.1[x16.toNat]?).bind λx17=>iteP (0<=s.1.2.1) ((s.2.1.1.2.1[s.1.2.1.toNat]?).bind λx18=>br (decide ((x17.log.length:Int)>(x18.log.length:Int))) (iteP (0<=s.1.2.2.2.1/\s.1.2.2.2.1< (s.2.2.1.length:Int)) ((s.2.2.1[s.1.2.2.2.1.toNat]?).bind λx19=>some (.inl (((),x19,(),(IntKind.wrap .i64 (s.1.2.2.2.1+1)),()),s.2))) none) (some (.inl (((),s.1.2.1,(),(IntKind.wrap .i64 (s.1.2.2.2.1+1)),()),s.2)))) none) none) none)) (some (.inr ((s.1.2.1,()),(()),(()))))
def LF:=nw FU
def Rt[dE] :=Ie Tryz.f257 [0] NS FU [] [] (by kernel_rfl) λs=>by simp only[FU,tm];kernel_rfl
def FA(a0:qg)(a1:Int):Option (Int×Unit):=
 (Fn a0 a1).bind λy1=>(LF (((),(-1),(),0,()),((a0.now,a0.servers,a0.sides,a0.master.configs,a0.master.activated,a0.masterUp,a0.lease.epoch,a0.lease.holder,a0.lease.ends,a0.places,()),()),y1.1,())).bind λe21=>some e21.1
def SX[dE] :=E0 257 Tryz.f257 Mn KJ (λx=>FA x.1 x.2.1) [Te] [Rt] (by kernel_rfl) λx=>by simp only[FA,tm];kernel_rfl
def G9(a0:qj)(a1:Int):Option ((List rj)×Unit):=
 (EJ a0.config a1).bind λy1=>(FC a0.learned).bind λy2=>br (y1.1==1) ((EE a0).bind λy3=>br (decide ((y3.1.length:Int)>(y2.1.length:Int))) (some (y3.1,())) (some (y2.1,()))) (br (y1.1==2) ((EE a0).bind λy4=>br (decide ((y4.1.length:Int)>(y2.1.length:Int))) (some (y4.1,())) (some (y2.1,()))) (some (y2.1,())))
def Wf[dE] :=E0 69 Tryz.f69 Uk Vb (λx=>G9 x.1 x.2.1) [MF,IV,I4] [] (by kernel_rfl) λx=>by simp only[G9,tm];kernel_rfl
def Lj(a0:Int)(a1:List rj):Option (Bool×Unit):=
 (EL a1).bind λy1=>br y1.1 (br (decide ((a1.length:Int)<=3)) ((Ei a0 0 (IntKind.wrap .i64 (16-(a1.length:Int)))).bind λy2=>br y2.1 (br (a0==0) (some (true,())) (some (((a1.length:Int)==3),()))) (some (false,()))) (some (false,()))) (some (false,()))
def We[dE] :=E0 136 Tryz.f136 YK [.b] (λx=>Lj x.1 x.2.1) [Ld,Fb] [] (by kernel_rfl) λx=>by simp only[Lj,tm];kernel_rfl
abbrev MR:LX:=⟨⟨[Mb,Xc,Na],[],[],0,30⟩,[(.ext 0,⟨[Na],[],[],0,30⟩)],[],[0,1,5],[5]⟩
def Gh(s:Y1×Unit×Unit):MR.R:=
 br (decide (s.1.2.2.1< (s.1.1.length:Int))) (br (decide (s.1.2.2.1< (s.1.2.1.length:Int))) (iteP (0<=s.1.2.2.1) ((s.1.1[s.1.2.2.1.toNat]?).bind λx4=>iteP (0<=s.1.2.2.1) ((s.1.2.1[s.1.2.2.1.toNat]?).bind λx5=>br ((x4.epoch==x5.epoch)&&((x4.op.client==x5.op.client)&&((x4.op.seq==x5.op.seq)&&((x4.op.kind==x5.op.kind)&&((x4.op.object==x5.op.object)&&((x4.op.old==x5.op.old)&&((x4.op.value==x5.op.value)&&true))))))) (some (.inl ((s.1.1,s.1.2.1,(IntKind.wrap .i64 (s.1.2.2.1+1)),()),(()),(())))) (some (.inr (s.1.2.2,(()),(()))))) none) none) (some (.inr (s.1.2.2,(()),(()))))) (some (.inr (s.1.2.2,(()),(()))))
def J6:=nw Gh
def PK[dE] :=Ie Tryz.f137 [0] MR Gh [] [] (by kernel_rfl) λs=>by simp only[Gh,tm];kernel_rfl
def Gt(a0:List rj)(a1:List rj):Option (Int×Unit):=
 (J6 ((a0,a1,0,()),(()),(()))).bind λe6=>some e6.1
def QS[dE] :=E0 137 Tryz.f137 VB KJ (λx=>Gt x.1 x.2.1) [] [PK] (by kernel_rfl) λx=>by simp only[Gt,tm];kernel_rfl
def FZ(a0:List rj)(a1:Int)(a2:List rj):Option ((List rj)×Bool×Unit):=
 (EL a0).bind λy1=>br (!y1.1) (some (([]:List rj),false,())) ((Lj a1 a2).bind λy2=>br (!y2.1) (some (([]:List rj),false,())) (br (decide (a1>(a0.length:Int))) (some (([]:List rj),false,())) (iteP (0<=a1/\a1<=(a0.length:Int)/\(a0.length:Int)<=(a0.length:Int)) ((Gt ((a0.drop a1.toNat).take ((a0.length:Int).toNat-a1.toNat)) a2).bind λy3=>br (decide (y3.1< (if (a2.length:Int)< (IntKind.wrap .i64 ((a0.length:Int)-a1)) then (a2.length:Int) else (IntKind.wrap .i64 ((a0.length:Int)-a1))))) (some (([]:List rj),false,())) ((FC a0).bind λy4=>iteP (0<=y3.1/\y3.1<=(a2.length:Int)/\(a2.length:Int)<=(a2.length:Int)) (iteP ((y4.1++((a2.drop y3.1.toNat).take ((a2.length:Int).toNat-y3.1.toNat))).length*56<=2 ^ 40) ((EL (y4.1++((a2.drop y3.1.toNat).take ((a2.length:Int).toNat-y3.1.toNat)))).bind λy5=>br (!y5.1) (some (([]:List rj),false,())) (some ((y4.1++((a2.drop y3.1.toNat).take ((a2.length:Int).toNat-y3.1.toNat))),true,()))) none) none)) none)))
def UY[dE] :=E0 68 Tryz.f68 YL Wn (λx=>FZ x.1 x.2.1 x.2.2.1) [Ld,We,QS,IV] [] (by kernel_rfl) λx=>by simp only[FZ,tm];kernel_rfl
abbrev KT:LX:=⟨⟨[KI,Oc,Sx,Un,Xd,Oq,Uo,(11,.cl (.ptr 2 0)),Pc],[Jr,Xn,Xl],Wo,0,121⟩,[(.ext 2,⟨[KI,Oc,Sx,Un,Xd,Oq,Uo],[Jr,Xn],Wo,0,121⟩)],[],[1,2,6,7,8,9,10,11,12],[1,2,6,7,8,9,10]⟩
def Fw(s: (Int×Unit×Unit×Bool×Unit×Bool×Int×Unit×Int×Unit)×(MO×PF×Xi×Unit)×List rj×List Int×List Int×Unit):KT.R:=
 br (decide (s.1.2.2.2.2.2.2.2.2.1<5)) (iteP (0<=s.1.2.2.2.2.2.2.2.2.1) ((s.2.1.1.2.1[s.1.2.2.2.2.2.2.2.2.1.toNat]?).bind λx59=>let j66 (p64:List rj) (p65:Bool):KT.R:=some (.inl ((s.1.1,(),(),p65,(),s.1.2.2.2.2.2.1,s.1.2.2.2.2.2.2.1,(),(IntKind.wrap .i64 (s.1.2.2.2.2.2.2.2.2.1+1)),()),s.2.1,p64,s.2.2.2));br (!x59.up) (j66 s.2.2.1 s.1.2.2.2.1) ((EK s.2.1.1.2.2.1 s.1.1 s.1.2.2.2.2.2.2.2.2.1).bind λy60=>br (!y60.1) (j66 s.2.2.1 s.1.2.2.2.1) (iteP (0<=s.1.2.2.2.2.2.2.2.2.1) ((s.2.1.1.2.1[s.1.2.2.2.2.2.2.2.2.1.toNat]?).bind λx61=>(G9 x61 s.1.2.2.2.2.2.2.2.2.1).bind λy62=>(FZ y62.1 s.2.1.2.2.1.2.2.2.2.2.2.2.2.1 s.2.1.2.2.1.2.2.2.2.2.2.2.2.2.1).bind λy63=>br y63.2.1 (br (!s.1.2.2.2.1) (j66 y63.1 true) (br (decide ((y63.1.length:Int)>(s.2.2.1.length:Int))) (j66 y63.1 true) (j66 s.2.2.1 s.1.2.2.2.1))) (j66 s.2.2.1 s.1.2.2.2.1)) none))) none) (some (.inr ((s.1.1,(),(),s.1.2.2.2.1,(),s.1.2.2.2.2.2.1,s.1.2.2.2.2.2.2.1,()),(s.2.1.1,s.2.1.2.1,()),s.2.2)))
def H1:=nw Fw
def Qz[dE] :=Ie Tryz.f23 [0,0] KT Fw [J3,Wf,UY] [] (by kernel_rfl) λs=>by simp only[Fw,tm];kernel_rfl
abbrev NW:LX:=⟨⟨[KI,Oc,Sx,Un,Xd,Oq,Uo],[Jr,Xn],Wo,0,121⟩,[(.ext 0,⟨[Sx,Un],[],Yg,0,121⟩)],[],[1,2,6,7,8,9,10],[6,7]⟩
def Fk(s: (Int×Unit×Unit×Bool×Unit×Bool×Int×Unit)×(MO×PF×Unit)×List rj×List Int×List Int×Unit):NW.R:=
 br (decide (s.1.2.2.2.2.2.2.1< (s.2.2.2.2.1.length:Int))) (br s.1.2.2.2.2.2.1 ((Ea (⟨s.2.1.1.1,s.2.1.1.2.1,s.2.1.1.2.2.1,(⟨s.2.1.1.2.2.2.1,s.2.1.1.2.2.2.2.1⟩:jY),s.2.1.1.2.2.2.2.2.1,(⟨s.2.1.1.2.2.2.2.2.2.1,s.2.1.1.2.2.2.2.2.2.2.1,s.2.1.1.2.2.2.2.2.2.2.2.1⟩:uK),s.2.1.1.2.2.2.2.2.2.2.2.2.1⟩:qg)).bind λy21=>br y21.1 ((Ei s.1.1 0 4).bind λy22=>br y22.1 (iteP (0<=s.1.2.2.2.2.2.2.1/\s.1.2.2.2.2.2.2.1< (s.2.2.2.2.1.length:Int)) ((s.2.2.2.2.1[s.1.2.2.2.2.2.2.1.toNat]?).bind λx23=>iteP (0<=x23) ((s.2.1.1.2.1[x23.toNat]?).bind λx24=>br (!x24.up) (some (.inl ((s.1.1,(),(),s.1.2.2.2.1,(),s.1.2.2.2.2.2.1,(IntKind.wrap .i64 (s.1.2.2.2.2.2.2.1+1)),()),s.2))) (br (!(x24.config.epoch==s.2.1.2.1.1)) (some (.inl ((s.1.1,(),(),s.1.2.2.2.1,(),s.1.2.2.2.2.2.1,(IntKind.wrap .i64 (s.1.2.2.2.2.2.2.1+1)),()),s.2))) (iteP (0<=s.1.2.2.2.2.2.2.1/\s.1.2.2.2.2.2.2.1< (s.2.2.2.2.1.length:Int)) ((s.2.2.2.2.1[s.1.2.2.2.2.2.2.1.toNat]?).bind λx25=>(EK s.2.1.1.2.2.1 s.1.1 x25).bind λy26=>br (!y26.1) (some (.inl ((s.1.1,(),(),s.1.2.2.2.1,(),s.1.2.2.2.2.2.1,(IntKind.wrap .i64 (s.1.2.2.2.2.2.2.1+1)),()),s.2))) ((H1 ((s.1.1,(),(),s.1.2.2.2.1,(),s.1.2.2.2.2.2.1,s.1.2.2.2.2.2.2.1,(),0,()),(s.2.1.1,s.2.1.2.1,(x24.up,x24.intact,x24.version,x24.epoch,x24.config.epoch,x24.config.primary,x24.config.replicas,x24.config.witnesses,x24.first,x24.log,x24.commit,x24.learned,()),()),s.2.2)).bind λe67=>some (.inl ((e67.1.1,(),(),e67.1.2.2.2.1,(),e67.1.2.2.2.2.2.1,(IntKind.wrap .i64 (e67.1.2.2.2.2.2.2.1+1)),()),e67.2)))) none))) none) none) (some (.inr (((),s.1.2.2.2.1,()),(()),s.2.2.1,())))) (some (.inr (((),s.1.2.2.2.1,()),(()),s.2.2.1,())))) (some (.inr (((),s.1.2.2.2.1,()),(()),s.2.2.1,())))) (some (.inr (((),s.1.2.2.2.1,()),(()),s.2.2.1,())))
def JL:=nw Fk
def RA[dE] :=Ie Tryz.f23 [0] NW Fk [Ek,Fb,J3] [Qz] (by kernel_rfl) λs=>by simp only[Fk,tm];kernel_rfl
def EP(a0:qg)(a1:Int):Option ((List rj)×Bool×Unit):=
 (Ef a0.master).bind λy1=>(JL ((a1,(),(),false,(),y1.2.1,0,()),((a0.now,a0.servers,a0.sides,a0.master.configs,a0.master.activated,a0.masterUp,a0.lease.epoch,a0.lease.holder,a0.lease.ends,a0.places,()),(y1.1.epoch,y1.1.primary,(),(),()),()),([]:List rj),y1.1.replicas,y1.1.witnesses,())).bind λe87=>some (e87.2.2.1,e87.1.2)
def O5[dE] :=E0 23 Tryz.f23 Mn Wn (λx=>EP x.1 x.2.1) [Fx] [RA] (by kernel_rfl) λx=>by simp only[EP,tm];kernel_rfl
def Fl(a0:qg)(a1:Int):Option ((List rj)×Bool×Unit):=
 (Ea a0).bind λy1=>br (!y1.1) (some (([]:List rj),false,())) ((Ei a1 0 4).bind λy2=>br (!y2.1) (some (([]:List rj),false,())) (br (a0.master.activated==0) (some (([]:List rj),true,())) ((FA a0 a1).bind λy3=>br (decide (y3.1≥0)) (iteP (0<=y3.1) ((a0.servers[y3.1.toNat]?).bind λx4=>(FC x4.log).bind λy5=>some (y5.1,true,())) none) ((EP a0 a1).bind λy6=>some (y6.1,y6.2.1,())))))
def TZ[dE] :=E0 227 Tryz.f227 Mn Wn (λx=>Fl x.1 x.2.1) [Ek,Fb,SX,IV,O5] [] (by kernel_rfl) λx=>by simp only[Fl,tm];kernel_rfl
abbrev MV:LX:=⟨⟨[Mb,M9],[],[],0,16⟩,[(.ret,⟨[OK],[],[],0,16⟩),(.ext 0,⟨[NL],[],[],0,16⟩)],[],[0,3],[2]⟩
def IA(s:YY×Unit×Unit):MV.R:=
 br (decide (s.1.2.1< (s.1.1.length:Int))) (iteP (0<=s.1.2.1) ((s.1.1[s.1.2.1.toNat]?).bind λx3=>(Ib x3.op).bind λy4=>br y4.1 (some (.inr (.inl ((true,()),(()),(()))))) (some (.inl ((s.1.1,(IntKind.wrap .i64 (s.1.2.1+1)),()),(()),(()))))) none) (some (.inr (.inr (((),()),(()),(())))))
def PC:=nw IA
def PP[dE] :=Ie Tryz.f228 [0] MV IA [Oj] [] (by kernel_rfl) λs=>by simp only[IA,tm];kernel_rfl
def Fe(a0:List rj):Option (Bool×Unit):=
 (PC ((a0,0,()),(()),(()))).bind λe5=>Sum.elim (λe5_0=>some e5_0.1) (λ_=>some (false,())) e5
def LC[dE] :=E0 228 Tryz.f228 Qq [.b] (λx=>Fe x.1) [] [PP] (by kernel_rfl) λx=>by simp only[Fe,tm];kernel_rfl
def F9(a0:qj)(a1:nE)(a2:Int)(a3:List rj):Option (qj×Bool×Unit):=
 (EJ a1 a2).bind λy1=>br (y1.1==0) ((G8 a0).bind λy2=>some (y2.1,false,())) ((EL a3).bind λy3=>br (!y3.1) ((G8 a0).bind λy4=>some (y4.1,false,())) ((Ei a0.version 1 2).bind λy5=>br (!y5.1) ((G8 a0).bind λy6=>some (y6.1,false,())) ((Ei a0.epoch 0 a1.epoch).bind λy7=>br (!y7.1) ((G8 a0).bind λy8=>some (y8.1,false,())) ((GS a3).bind λy9=>br (decide (y9.1>a1.epoch)) ((G8 a0).bind λy10=>some (y10.1,false,())) (let j18:Option (qj×Bool×Unit):=(GW a1).bind λy13=>(FC a3).bind λy14=>br (y1.1==3) (iteP (0<=(if (IntKind.wrap .i64 ((a3.length:Int)-3))>0 then (IntKind.wrap .i64 ((a3.length:Int)-3)) else 0)/\(if (IntKind.wrap .i64 ((a3.length:Int)-3))>0 then (IntKind.wrap .i64 ((a3.length:Int)-3)) else 0)<=(a3.length:Int)/\(a3.length:Int)<=(a3.length:Int)) ((FC ((a3.drop (if (IntKind.wrap .i64 ((a3.length:Int)-3))>0 then (IntKind.wrap .i64 ((a3.length:Int)-3)) else 0).toNat).take ((a3.length:Int).toNat-(if (IntKind.wrap .i64 ((a3.length:Int)-3))>0 then (IntKind.wrap .i64 ((a3.length:Int)-3)) else 0).toNat))).bind λy15=>some ((⟨a0.up,true,a0.version,a1.epoch,y13.1,(if (IntKind.wrap .i64 ((a3.length:Int)-3))>0 then (IntKind.wrap .i64 ((a3.length:Int)-3)) else 0),y15.1,(a3.length:Int),([]:List rj)⟩:qj),true,())) none) (some ((⟨a0.up,true,a0.version,a1.epoch,y13.1,0,y14.1,(a3.length:Int),([]:List rj)⟩:qj),true,()));br (a0.version==1) ((Fe a3).bind λy11=>br y11.1 ((G8 a0).bind λy12=>some (y12.1,false,())) (j18)) (j18))))))
def Qg[dE] :=E0 199 Tryz.f199 [.ty (.st .server),.ty (.st .config),.ty (.i .i64),.ty (.ls (.st .entry))] [.st .server,.b] (λx=>F9 x.1 x.2.1 x.2.2.1 x.2.2.2.1) [MF,Py,Ld,Fb,Pz,LC,NB,IV] [] (by kernel_rfl) λx=>by simp only[F9,tm];kernel_rfl
def FM(a0:jY)(a1:Int):Option (jY×Bool×Unit):=
 (J1 a0).bind λy1=>(Eo a0).bind λy2=>br (!y2.1) (some (y1.1,false,())) (br (!(a1==(a0.configs.length:Int))) (some (y1.1,false,())) (br (decide (a1<=a0.activated)) (some (y1.1,false,())) (some ((⟨y1.1.configs,a1⟩:jY),true,()))))
def Ps[dE] :=E0 197 Tryz.f197 W5 [.st .masterLog,.b] (λx=>FM x.1 x.2.1) [Px,Km] [] (by kernel_rfl) λx=>by simp only[FM,tm];kernel_rfl
abbrev Ot:LX:=⟨⟨[Jq,NJ,P4,P5,Re,Rf,Uo],[Jr,MP,Tn,Vf],Vg,0,180⟩,[(.ret,⟨[Jq,NJ,M9,P4,P5,Re,Rf],[Jr,Tn,Tn,Vf],Vg,0,180⟩),(.ext 1,⟨[Jq,NJ,(3,.cl (.dead)),P4,P5,Re,Rf],[Jr,MP,Tn,Vf],Vg,0,180⟩)],[],[1,2,4,5,7,9,10],[1,2,3,4,5,7,9]⟩
def H3(s:Xj×(MO×Mq×Mq×PF×Unit)×List rj×List Int×List qj×List Int×List nE×List uN×List Int×List Int×Unit):Ot.R:=
 br (decide (s.1.2.2.2.2.2.2.1< (s.2.2.2.1.length:Int))) (iteP (0<=s.1.2.2.2.2.2.2.1/\s.1.2.2.2.2.2.2.1< (s.2.2.2.1.length:Int)) ((s.2.2.2.1[s.1.2.2.2.2.2.2.1.toNat]?).bind λx43=>iteP (0<=x43) ((s.2.1.1.2.1[x43.toNat]?).bind λx44=>br (!x44.up) (some (.inr (.inl (((),(),10,(),(),(),(),()),(s.2.1.1,s.2.1.2.2.1,s.2.1.2.2),s.2.2)))) (iteP (0<=s.1.2.2.2.2.2.2.1/\s.1.2.2.2.2.2.2.1< (s.2.2.2.1.length:Int)) ((s.2.2.2.1[s.1.2.2.2.2.2.2.1.toNat]?).bind λx45=>iteP (0<=x45) ((s.2.1.1.2.2.1[x45.toNat]?).bind λx46=>br (!(x46==0)) (some (.inr (.inl (((),(),10,(),(),(),(),()),(s.2.1.1,s.2.1.2.2.1,s.2.1.2.2),s.2.2)))) (some (.inl (((),(),(),(),(),(),(IntKind.wrap .i64 (s.1.2.2.2.2.2.2.1+1)),()),s.2)))) none) none)) none) none) (some (.inr (.inr (((),(),(),(),(),(),(),()),s.2))))
def RY:=nw H3
def R9[dE] :=Ie Tryz.f170 [0] Ot H3 [] [] (by kernel_rfl) λs=>by simp only[H3,tm];kernel_rfl
abbrev Mr:LX:=⟨⟨[Jq,NJ,P4,P5,Re,Rf,VE],[Jr,MP,Tn,Vf],Vg,0,180⟩,[(.ret,⟨[Jq,NJ,M9,P4,P5,Re,Rf],[Jr,Tn,Tn,Vf],Vg,0,180⟩),(.ext 3,⟨[Jq,NJ,(3,.cl (.dead)),P4,P5,Re,Rf],[Jr,MP,Tn,Vf],Vg,0,180⟩)],[],[1,2,4,5,7,9,11],[1,2,3,4,5,7,9]⟩
def H4(s:Xj×(MO×Mq×Mq×PF×Unit)×List rj×List Int×List qj×List Int×List nE×List uN×List Int×List Int×Unit):Mr.R:=
 br (decide (s.1.2.2.2.2.2.2.1< (s.2.2.2.1.length:Int))) (iteP (0<=s.1.2.2.2.2.2.2.1/\s.1.2.2.2.2.2.2.1< (s.2.2.2.1.length:Int)) ((s.2.2.2.1[s.1.2.2.2.2.2.2.1.toNat]?).bind λx81=>iteP (0<=x81) ((s.2.1.1.2.1[x81.toNat]?).bind λx82=>let j84:Mr.R:=some (.inl (((),(),(),(),(),(),(IntKind.wrap .i64 (s.1.2.2.2.2.2.2.1+1)),()),s.2));br (x82.version==1) ((Fe s.2.2.1).bind λy83=>br y83.1 (some (.inr (.inl (((),(),6,(),(),(),(),()),(s.2.1.1,s.2.1.2.2.1,s.2.1.2.2),s.2.2)))) (j84)) (j84)) none) none) (some (.inr (.inr (((),(),(),(),(),(),(),()),s.2))))
def Kn:=nw H4
def Sa[dE] :=Ie Tryz.f170 [1] Mr H4 [LC] [] (by kernel_rfl) λs=>by simp only[H4,tm];kernel_rfl
abbrev Ou:LX:=⟨⟨[Jq,NJ,P4,P5,Re,Rf,Pc],[Jr,MP,Tn,Vf],Vg,0,180⟩,[(.ext 5,⟨[Jq,NJ,P4,P5],[Jr,MP,R7,[.int .i64,.int .i64,.own 4 (.i .i64),.own 5 (.i .i64)]],[.st .server,.i .i64,.st .config,.st .place,.i .i64,.i .i64],0,180⟩)],[],[1,2,4,5,7,9,12],[1,2,4,5]⟩
def IL(s:Xj×(MO×Mq×Mq×PF×Unit)×List rj×List Int×List qj×List Int×List nE×List uN×List Int×List Int×Unit):Ou.R:=
 br (decide (s.1.2.2.2.2.2.2.1< (s.2.2.2.1.length:Int))) (iteP (0<=s.1.2.2.2.2.2.2.1/\s.1.2.2.2.2.2.2.1< (s.2.2.2.1.length:Int)) ((s.2.2.2.1[s.1.2.2.2.2.2.2.1.toNat]?).bind λx119=>iteP (0<=s.1.2.2.2.2.2.2.1/\s.1.2.2.2.2.2.2.1< (s.2.2.2.1.length:Int)) ((s.2.2.2.1[s.1.2.2.2.2.2.2.1.toNat]?).bind λx120=>iteP (0<=x120/\x120< (s.2.2.2.2.1.length:Int)) ((s.2.2.2.2.1[x120.toNat]?).bind λx121=>iteP (0<=s.1.2.2.2.2.2.2.1/\s.1.2.2.2.2.2.2.1< (s.2.2.2.1.length:Int)) ((s.2.2.2.1[s.1.2.2.2.2.2.2.1.toNat]?).bind λx122=>(s.2.2.2.2.1[x120.toNat]?).bind λx123=>iteP (0+x121.config.replicas.length<=x123.config.replicas.length) ((s.2.2.2.2.1[x120.toNat]?).bind λx124=>iteP (0+x121.config.witnesses.length<=x124.config.witnesses.length) ((s.2.2.2.2.1[x120.toNat]?).bind λx125=>iteP (0+x121.log.length<=x125.log.length) ((s.2.2.2.2.1[x120.toNat]?).bind λx126=>iteP (0+x121.learned.length<=x126.learned.length) ((F9 (⟨x121.up,x121.intact,x121.version,x121.epoch,(⟨x121.config.epoch,x121.config.primary,((x123.config.replicas.drop 0).take x121.config.replicas.length),((x124.config.witnesses.drop 0).take x121.config.witnesses.length)⟩:nE),x121.first,((x125.log.drop 0).take x121.log.length),x121.commit,((x126.learned.drop 0).take x121.learned.length)⟩:qj) (⟨s.2.1.2.2.2.1.1,s.2.1.2.2.2.1.2.1,s.2.2.2.2.2.2.2.2.1,s.2.2.2.2.2.2.2.2.2.1⟩:nE) x122 s.2.2.1).bind λy127=>iteP (0<=x119/\x119< (s.2.2.2.2.1.length:Int)) ((s.2.2.2.2.1[x119.toNat]?).bind λ_=>some (.inl (((),(),(),(),(),(),(IntKind.wrap .i64 (s.1.2.2.2.2.2.2.1+1)),()),s.2.1,s.2.2.1,s.2.2.2.1,(s.2.2.2.2.1.set x119.toNat y127.1),s.2.2.2.2.2))) none) none) none) none) none) none) none) none) none) (some (.inr (((),(),(),(),()),s.2.1,s.2.2.2.2)))
def Mj:=nw IL
def Sb[dE] :=Ie Tryz.f170 [2] Ou IL [Qg] [] (by kernel_rfl) λs=>by simp only[IL,tm];kernel_rfl
def GC(a0:qg):Option (qg×Int×Unit):=
 (EN a0).bind λy1=>(GK a0.master).bind λy2=>(Ea a0).bind λy3=>br (!y3.1) (some (y1.1,1,())) (br (!y2.2.1) (some (y1.1,1,())) (br (y2.1.epoch==a0.master.activated) (some (y1.1,1,())) (br (decide ((IntKind.wrap .i64 (a0.masterUp*2))<=3)) (some (y1.1,8,())) (iteP (0<=y2.1.primary) ((a0.servers[y2.1.primary.toNat]?).bind λx4=>br (!x4.up) (some (y1.1,2,())) (iteP (0<=y2.1.primary) ((a0.sides[y2.1.primary.toNat]?).bind λx5=>br (!(x5==0)) (some (y1.1,10,())) ((Hq a0.lease a0.now).bind λy6=>br (!y6.1) (some (y1.1,7,())) ((EO a0 y2.1.primary y2.1.epoch).bind λy7=>(Fl a0 y2.1.primary).bind λy8=>br (!y8.2.1) (some (y7.1,9,())) ((EI y2.1).bind λy9=>(RY (((),(),(),(),(),(),0,()),((a0.now,a0.servers,a0.sides,a0.master.configs,a0.master.activated,a0.masterUp,a0.lease.epoch,a0.lease.holder,a0.lease.ends,a0.places,()),(0,(),(),(),0,0,0,0,0,(),()),(y7.1.now,(),(),(),y7.1.master.activated,y7.1.masterUp,y7.1.lease.epoch,y7.1.lease.holder,y7.1.lease.ends,(),()),(y2.1.epoch,y2.1.primary,(),(),()),()),y8.1,y9.1,y7.1.servers,y7.1.sides,y7.1.master.configs,y7.1.places,y2.1.replicas,y2.1.witnesses,())).bind λe47=>Sum.elim (λe47_0=>some ((⟨e47_0.2.1.2.1.1,e47_0.2.2.2.2.1,e47_0.2.2.2.2.2.1,(⟨e47_0.2.2.2.2.2.2.1,e47_0.2.1.2.1.2.2.2.2.1⟩:jY),e47_0.2.1.2.1.2.2.2.2.2.1,(⟨e47_0.2.1.2.1.2.2.2.2.2.2.1,e47_0.2.1.2.1.2.2.2.2.2.2.2.1,e47_0.2.1.2.1.2.2.2.2.2.2.2.2.1⟩:uK),e47_0.2.2.2.2.2.2.2.1⟩:qg),e47_0.1.2.2.1,())) (λe47_1=>(Kn (((),(),(),(),(),(),0,()),e47_1.2)).bind λe85=>Sum.elim (λe85_0=>some ((⟨e85_0.2.1.2.1.1,e85_0.2.2.2.2.1,e85_0.2.2.2.2.2.1,(⟨e85_0.2.2.2.2.2.2.1,e85_0.2.1.2.1.2.2.2.2.1⟩:jY),e85_0.2.1.2.1.2.2.2.2.2.1,(⟨e85_0.2.1.2.1.2.2.2.2.2.2.1,e85_0.2.1.2.1.2.2.2.2.2.2.2.1,e85_0.2.1.2.1.2.2.2.2.2.2.2.2.1⟩:uK),e85_0.2.2.2.2.2.2.2.1⟩:qg),e85_0.1.2.2.1,())) (λe85_1=>(Mj (((),(),(),(),(),(),0,()),e85_1.2)).bind λe130=>(FM (⟨e130.2.1.1.2.2.2.1,e130.2.1.1.2.2.2.2.1⟩:jY) e130.2.1.2.2.2.1.1).bind λy131=>some ((⟨e130.2.1.2.2.1.1,e130.2.2.1,e130.2.2.2.1,y131.1,e130.2.1.2.2.1.2.2.2.2.2.1,(⟨0,0,0⟩:uK),e130.2.2.2.2.2.1⟩:qg),0,())) e85) e47)))) none)) none))))
def OG[dE] :=E0 170 Tryz.f170 R5 Od (λx=>GC x.1) [Fi,S6,Ek,Ok,RV,TZ,Jo,Ps] [R9,Sa,Sb] (by kernel_rfl) λx=>by simp only[GC,tm];kernel_rfl
def Ha(a0:qg)(a1:Int):Option (Bool×Unit):=
 (Ea a0).bind λy1=>br y1.1 ((Ei a1 0 4).bind λy2=>some (y2.1,())) (some (false,()))
def MH[dE] :=E0 229 Tryz.f229 Mn [.b] (λx=>Ha x.1 x.2.1) [Ek,Fb] [] (by kernel_rfl) λx=>by simp only[Ha,tm];kernel_rfl
def Hp(a0:qg)(a1:Int):Option (qg×Int×Unit):=
 (EN a0).bind λy1=>(Ha a0 a1).bind λy2=>br (!y2.1) (some (y1.1,1,())) (iteP (0<=a1) ((a0.servers[a1.toNat]?).bind λx3=>br (!x3.up) (some (y1.1,2,())) (iteP (0<=a1/\a1< (y1.1.servers.length:Int)) ((y1.1.servers[a1.toNat]?).bind λx4=>some ((⟨y1.1.now,(y1.1.servers.set a1.toNat (⟨false,x4.intact,x4.version,x4.epoch,x4.config,x4.first,x4.log,x4.commit,x4.learned⟩:qj)),y1.1.sides,y1.1.master,y1.1.masterUp,y1.1.lease,y1.1.places⟩:qg),0,())) none)) none)
def RR[dE] :=E0 171 Tryz.f171 Mn Od (λx=>Hp x.1 x.2.1) [Fi,MH] [] (by kernel_rfl) λx=>by simp only[Hp,tm];kernel_rfl
def GG(a0:qg)(a1:Int):Option (qg×Int×Unit):=
 (EN a0).bind λy1=>(Ha a0 a1).bind λy2=>br (!y2.1) (some (y1.1,1,())) (iteP (0<=a1) ((a0.servers[a1.toNat]?).bind λx3=>br x3.up (some (y1.1,1,())) (iteP (0<=a1/\a1< (y1.1.servers.length:Int)) ((y1.1.servers[a1.toNat]?).bind λx4=>some ((⟨y1.1.now,(y1.1.servers.set a1.toNat (⟨true,x4.intact,x4.version,x4.epoch,x4.config,x4.first,x4.log,x4.commit,x4.learned⟩:qj)),y1.1.sides,y1.1.master,y1.1.masterUp,y1.1.lease,y1.1.places⟩:qg),0,())) none)) none)
def Qj[dE] :=E0 172 Tryz.f172 Mn Od (λx=>GG x.1 x.2.1) [Fi,MH] [] (by kernel_rfl) λx=>by simp only[GG,tm];kernel_rfl
def K9(a0:qj):Option (qj×Unit):=
 some ((⟨a0.up,false,a0.version,0,(⟨0,0,([]:List Int),([]:List Int)⟩:nE),0,([]:List rj),0,([]:List rj)⟩:qj),())
def Tf[dE] :=E0 230 Tryz.f230 Ug [.st .server] (λx=>K9 x.1) [] [] (by kernel_rfl) λx=>by simp only[K9,tm];kernel_rfl
def Ja(a0:qg)(a1:Int):Option (qg×Int×Unit):=
 (EN a0).bind λy1=>(Ha a0 a1).bind λy2=>br (!y2.1) (some (y1.1,1,())) (iteP (0<=a1) ((a0.servers[a1.toNat]?).bind λx3=>(K9 x3).bind λy4=>iteP (0<=a1/\a1< (y1.1.servers.length:Int)) ((y1.1.servers[a1.toNat]?).bind λ_=>some ((⟨y1.1.now,(y1.1.servers.set a1.toNat y4.1),y1.1.sides,y1.1.master,y1.1.masterUp,y1.1.lease,y1.1.places⟩:qg),0,())) none) none)
def UZ[dE] :=E0 173 Tryz.f173 Mn Od (λx=>Ja x.1 x.2.1) [Fi,MH,Tf] [] (by kernel_rfl) λx=>by simp only[Ja,tm];kernel_rfl
def Jb(a0:List Int)(a1:Int)(a2:Int):Option ((List Int)×Bool×Unit):=
 iteP ((([]:List Int)++a0).length*8<=2 ^ 40) ((Fj a0).bind λy1=>br (!y1.1) (some ((([]:List Int)++a0),false,())) ((Ei a1 0 4).bind λy2=>br (!y2.1) (some ((([]:List Int)++a0),false,())) ((Ei a2 0 3).bind λy3=>br (!y3.1) (some ((([]:List Int)++a0),false,())) (iteP (0<=a1/\a1< ((([]:List Int)++a0).length:Int)) (((([]:List Int)++a0)[a1.toNat]?).bind λ_=>some (((([]:List Int)++a0).set a1.toNat a2),true,())) none)))) none
def U0[dE] :=E0 231 Tryz.f231 W7 [.ls (.i .i64),.b] (λx=>Jb x.1 x.2.1 x.2.2.1) [M5,Fb] [] (by kernel_rfl) λx=>by simp only[Jb,tm];kernel_rfl
def HQ(a0:qg)(a1:Int)(a2:Int):Option (qg×Int×Unit):=
 (EN a0).bind λy1=>(Jb a0.sides a1 a2).bind λy2=>(Ea a0).bind λy3=>br (!y3.1) (some (y1.1,1,())) (br (!y2.2.1) (some (y1.1,1,())) (some ((⟨y1.1.now,y1.1.servers,y2.1,y1.1.master,y1.1.masterUp,y1.1.lease,y1.1.places⟩:qg),0,())))
def S8[dE] :=E0 174 Tryz.f174 R6 Od (λx=>HQ x.1 x.2.1 x.2.2.1) [Fi,U0,Ek] [] (by kernel_rfl) λx=>by simp only[HQ,tm];kernel_rfl
def HU(a0:qg)(a1:Int):Option (qg×Int×Unit):=
 (EN a0).bind λy1=>(Ea a0).bind λy2=>br (!y2.1) (some (y1.1,1,())) ((Ei a1 0 3).bind λy3=>br (!y3.1) (some (y1.1,1,())) (some ((⟨y1.1.now,y1.1.servers,y1.1.sides,y1.1.master,a1,y1.1.lease,y1.1.places⟩:qg),0,())))
def Td[dE] :=E0 175 Tryz.f175 Mn Od (λx=>HU x.1 x.2.1) [Fi,Ek,Fb] [] (by kernel_rfl) λx=>by simp only[HU,tm];kernel_rfl
def Iq(a0:qg)(a1:Int):Option (qg×Int×Unit):=
 (EN a0).bind λy1=>(Ea a0).bind λy2=>br (!y2.1) (some (y1.1,1,())) ((Ei a1 0 (IntKind.wrap .i64 (999-a0.now))).bind λy3=>br (!y3.1) (some (y1.1,1,())) (some ((⟨(IntKind.wrap .i64 (a0.now+a1)),y1.1.servers,y1.1.sides,y1.1.master,y1.1.masterUp,y1.1.lease,y1.1.places⟩:qg),0,())))
def QW[dE] :=E0 176 Tryz.f176 Mn Od (λx=>Iq x.1 x.2.1) [Fi,Ek,Fb] [] (by kernel_rfl) λx=>by simp only[Iq,tm];kernel_rfl
def Jm(a0:qg)(a1:Int)(a2:Int):Option (Bool×Unit):=
 (Ea a0).bind λy1=>br (!y1.1) (some (false,())) ((EK a0.sides a1 a2).bind λy2=>br (!y2.1) (some (false,())) (br (a1==a2) (some (false,())) (iteP (0<=a1) ((a0.servers[a1.toNat]?).bind λx3=>(EJ x3.config a1).bind λy4=>br x3.up (iteP (0<=a2) ((a0.servers[a2.toNat]?).bind λx5=>br x5.up (br (y4.1==1) (br (x3.config.epoch==a0.master.activated) ((EJ x3.config a2).bind λy6=>some ((y6.1==0),())) (some (false,()))) (br (y4.1==2) (br (x3.config.epoch==a0.master.activated) ((EJ x3.config a2).bind λy7=>some ((y7.1==0),())) (some (false,()))) (some (false,())))) (some (false,()))) none) (some (false,()))) none)))
def Ub[dE] :=E0 258 Tryz.f258 R6 [.b] (λx=>Jm x.1 x.2.1 x.2.2.1) [Ek,J3,MF] [] (by kernel_rfl) λx=>by simp only[Jm,tm];kernel_rfl
abbrev Ms:LX:=⟨⟨[(0,.cl (.int .i64)),VF,Om],[],[],0,31⟩,[(.ext 0,⟨[VF,Om],[],[],0,31⟩)],[],[0,3,4],[3,4]⟩
def Kd(s: (Int×ByteArray×Bool×Unit)×Unit×Unit):Ms.R:=
 br (!(s.1.1==0)) (let j5 (p4:Int):Ms.R:=iteP (0< ([(IntKind.wrap .u8 (IntKind.wrap .i64 (48+p4)))]:List Int).length/\0+([(IntKind.wrap .u8 (IntKind.wrap .i64 (48+p4)))]:List Int).length<=([(IntKind.wrap .u8 (IntKind.wrap .i64 (48+p4)))]:List Int).length) (iteP ((Br ((([(IntKind.wrap .u8 (IntKind.wrap .i64 (48+p4)))]:List Int).drop 0).take (([(IntKind.wrap .u8 (IntKind.wrap .i64 (48+p4)))]:List Int).length))).size+s.1.2.1.size<=2 ^ 40) (some (.inl (((IntKind.wrap .i64 (Int.tdiv s.1.1 10)),((Br ((([(IntKind.wrap .u8 (IntKind.wrap .i64 (48+p4)))]:List Int).drop 0).take (([(IntKind.wrap .u8 (IntKind.wrap .i64 (48+p4)))]:List Int).length)))++s.1.2.1),s.1.2.2),(()),(())))) none) none;br (decide ((Int.tmod s.1.1 10)<0)) (j5 (IntKind.wrap .i64 (0-(Int.tmod s.1.1 10)))) (j5 (Int.tmod s.1.1 10))) (some (.inr (s.1.2,(()),(()))))
def RZ:=nw Kd
def Sd[dE] :=Ie Tryz.f291 [0] Ms Kd [] [] (by kernel_rfl) λs=>by simp only[Kd,tm];kernel_rfl
def F8(a0:Int):Option (ByteArray×Unit):=
 br (a0==0) (some ((⟨⟨[48]⟩⟩:ByteArray),())) ((RZ ((a0,ByteArray.empty,(decide (a0<0)),()),(()),(()))).bind λe6=>br e6.1.2.1 (iteP ((⟨⟨[45]⟩⟩:ByteArray).size+e6.1.1.size<=2 ^ 40) (some (((⟨⟨[45]⟩⟩:ByteArray)++e6.1.1),())) none) (some (e6.1.1,())))
def PX[dE] :=E0 291 Tryz.f291 Ui [.s] (λx=>F8 x.1) [] [Sd] (by kernel_rfl) λx=>by simp only[F8,tm];kernel_rfl
def Ls(a0:Op):Option (ByteArray×Unit):=
 (EH a0).bind λy1=>br (!y1.1) (some (ByteArray.empty,())) ((F8 a0.client).bind λy2=>iteP (y2.1.size+(⟨⟨[46]⟩⟩:ByteArray).size<=2 ^ 40) ((F8 a0.seq).bind λy3=>iteP ((y2.1++(⟨⟨[46]⟩⟩:ByteArray)).size+y3.1.size<=2 ^ 40) (iteP (((y2.1++(⟨⟨[46]⟩⟩:ByteArray))++y3.1).size+(⟨⟨[32]⟩⟩:ByteArray).size<=2 ^ 40) (br (a0.kind==1) (iteP ((((y2.1++(⟨⟨[46]⟩⟩:ByteArray))++y3.1)++(⟨⟨[32]⟩⟩:ByteArray)).size+(⟨⟨[119,114,105,116,101,32]⟩⟩:ByteArray).size<=2 ^ 40) ((F8 a0.object).bind λy4=>iteP (((((y2.1++(⟨⟨[46]⟩⟩:ByteArray))++y3.1)++(⟨⟨[32]⟩⟩:ByteArray))++(⟨⟨[119,114,105,116,101,32]⟩⟩:ByteArray)).size+y4.1.size<=2 ^ 40) (iteP ((((((y2.1++(⟨⟨[46]⟩⟩:ByteArray))++y3.1)++(⟨⟨[32]⟩⟩:ByteArray))++(⟨⟨[119,114,105,116,101,32]⟩⟩:ByteArray))++y4.1).size+(⟨⟨[32]⟩⟩:ByteArray).size<=2 ^ 40) ((F8 a0.value).bind λy5=>iteP (((((((y2.1++(⟨⟨[46]⟩⟩:ByteArray))++y3.1)++(⟨⟨[32]⟩⟩:ByteArray))++(⟨⟨[119,114,105,116,101,32]⟩⟩:ByteArray))++y4.1)++(⟨⟨[32]⟩⟩:ByteArray)).size+y5.1.size<=2 ^ 40) (some ((((((((y2.1++(⟨⟨[46]⟩⟩:ByteArray))++y3.1)++(⟨⟨[32]⟩⟩:ByteArray))++(⟨⟨[119,114,105,116,101,32]⟩⟩:ByteArray))++y4.1)++(⟨⟨[32]⟩⟩:ByteArray))++y5.1),())) none) none) none) none) (iteP ((((y2.1++(⟨⟨[46]⟩⟩:ByteArray))++y3.1)++(⟨⟨[32]⟩⟩:ByteArray)).size+(⟨⟨[115,119,97,112,32]⟩⟩:ByteArray).size<=2 ^ 40) ((F8 a0.object).bind λy6=>iteP (((((y2.1++(⟨⟨[46]⟩⟩:ByteArray))++y3.1)++(⟨⟨[32]⟩⟩:ByteArray))++(⟨⟨[115,119,97,112,32]⟩⟩:ByteArray)).size+y6.1.size<=2 ^ 40) (iteP ((((((y2.1++(⟨⟨[46]⟩⟩:ByteArray))++y3.1)++(⟨⟨[32]⟩⟩:ByteArray))++(⟨⟨[115,119,97,112,32]⟩⟩:ByteArray))++y6.1).size+(⟨⟨[32]⟩⟩:ByteArray).size<=2 ^ 40) ((F8 a0.old).bind λy7=>iteP (((((((y2.1++(⟨⟨[46]⟩⟩:ByteArray))++y3.1)++(⟨⟨[32]⟩⟩:ByteArray))++(⟨⟨[115,119,97,112,32]⟩⟩:ByteArray))++y6.1)++(⟨⟨[32]⟩⟩:ByteArray)).size+y7.1.size<=2 ^ 40) (iteP ((((((((y2.1++(⟨⟨[46]⟩⟩:ByteArray))++y3.1)++(⟨⟨[32]⟩⟩:ByteArray))++(⟨⟨[115,119,97,112,32]⟩⟩:ByteArray))++y6.1)++(⟨⟨[32]⟩⟩:ByteArray))++y7.1).size+(⟨⟨[32]⟩⟩:ByteArray).size<=2 ^ 40) ((F8 a0.value).bind λy8=>iteP (((((((((y2.1++(⟨⟨[46]⟩⟩:ByteArray))++y3.1)++(⟨⟨[32]⟩⟩:ByteArray))++(⟨⟨[115,119,97,112,32]⟩⟩:ByteArray))++y6.1)++(⟨⟨[32]⟩⟩:ByteArray))++y7.1)++(⟨⟨[32]⟩⟩:ByteArray)).size+y8.1.size<=2 ^ 40) (some ((((((((((y2.1++(⟨⟨[46]⟩⟩:ByteArray))++y3.1)++(⟨⟨[32]⟩⟩:ByteArray))++(⟨⟨[115,119,97,112,32]⟩⟩:ByteArray))++y6.1)++(⟨⟨[32]⟩⟩:ByteArray))++y7.1)++(⟨⟨[32]⟩⟩:ByteArray))++y8.1),())) none) none) none) none) none) none)) none) none) none)
def UX[dE] :=E0 292 Tryz.f292 VA [.s] (λx=>Ls x.1) [KG,PX] [] (by kernel_rfl) λx=>by simp only[Ls,tm];kernel_rfl
abbrev Mt:LX:=⟨⟨[Mb,VF,Ma],[],[],0,38⟩,[(.ext 0,⟨[VF],[],[],0,38⟩)],[],[0,3,4],[3]⟩
def Ke(s: (List rj×ByteArray×Int×Unit)×Unit×Unit):Mt.R:=
 br (decide (s.1.2.2.1< (s.1.1.length:Int))) (let j10 (p5:ByteArray):Mt.R:=iteP (0<=s.1.2.2.1) ((s.1.1[s.1.2.2.1.toNat]?).bind λx6=>(F8 x6.epoch).bind λy7=>iteP (p5.size+y7.1.size<=2 ^ 40) (iteP ((p5++y7.1).size+(⟨⟨[58]⟩⟩:ByteArray).size<=2 ^ 40) (iteP (0<=s.1.2.2.1) ((s.1.1[s.1.2.2.1.toNat]?).bind λx8=>(Ls x8.op).bind λy9=>iteP (((p5++y7.1)++(⟨⟨[58]⟩⟩:ByteArray)).size+y9.1.size<=2 ^ 40) (some (.inl ((s.1.1,(((p5++y7.1)++(⟨⟨[58]⟩⟩:ByteArray))++y9.1),(IntKind.wrap .i64 (s.1.2.2.1+1)),()),(()),(())))) none) none) none) none) none;br (decide (s.1.2.2.1>0)) (iteP (s.1.2.1.size+(⟨⟨[59]⟩⟩:ByteArray).size<=2 ^ 40) (j10 (s.1.2.1++(⟨⟨[59]⟩⟩:ByteArray))) none) (j10 s.1.2.1)) (some (.inr ((s.1.2.1,()),(()),(()))))
def R0:=nw Ke
def Se[dE] :=Ie Tryz.f289 [0] Mt Ke [PX,UX] [] (by kernel_rfl) λs=>by simp only[Ke,tm];kernel_rfl
def Kx(a0:List rj):Option (ByteArray×Unit):=
 (EL a0).bind λy1=>br (!y1.1) (some (ByteArray.empty,())) (br ((a0.length:Int)==0) (some ((⟨⟨[110,111,110,101]⟩⟩:ByteArray),())) ((R0 ((a0,ByteArray.empty,0,()),(()),(()))).bind λe11=>some e11.1))
def TT[dE] :=E0 289 Tryz.f289 Qq [.s] (λx=>Kx x.1) [Ld] [Se] (by kernel_rfl) λx=>by simp only[Kx,tm];kernel_rfl
abbrev Pg:LX:=⟨⟨[(0,.cl (.str)),M9,Ma],[],[],0,21⟩,[(.ext 0,⟨[M9],[],[],0,21⟩)],[],[0,3,4],[3]⟩
def K3(s: (ByteArray×Int×Int×Unit)×Unit×Unit):Pg.R:=
 br (decide (s.1.2.2.1< (s.1.1.size:Int))) (iteP (0<=s.1.2.2.1) ((s.1.1[s.1.2.2.1.toNat]?).bind λx4=>some (.inl ((s.1.1,(Int.tmod (IntKind.wrap .i64 ((IntKind.wrap .i64 ((IntKind.wrap .i64 (s.1.2.1*257))+(IntKind.wrap .i64 (x4.toNat:Int))))+1)) 9949),(IntKind.wrap .i64 (s.1.2.2.1+1)),()),(()),(())))) none) (some (.inr ((s.1.2.1,()),(()),(()))))
def Tl:=nw K3
def Tv[dE] :=Ie Tryz.f288 [0] Pg K3 [] [] (by kernel_rfl) λs=>by simp only[K3,tm];kernel_rfl
def Lr(a0:ByteArray):Option (Int×Unit):=
 (Tl ((a0,5,0,()),(()),(()))).bind λe5=>some e5.1
def UU[dE] :=E0 288 Tryz.f288 [.ty (.s)] KJ (λx=>Lr x.1) [] [Tv] (by kernel_rfl) λx=>by simp only[Lr,tm];kernel_rfl
abbrev NT:LX:=⟨⟨[Mb,Sw,Ma,Na],[],Iv,0,37⟩,[(.ext 0,⟨[Sw],[],Iv,0,37⟩)],[],[0,3,4,5],[3]⟩
def Jv(s: (List rj×Unit×Int×Int×Unit)×Unit×List Int×Unit):NT.R:=
 br (decide (s.1.2.2.2.1< (s.1.1.length:Int))) (iteP (0<=s.1.2.2.2.1/\s.1.2.2.2.1<=(IntKind.wrap .i64 (s.1.2.2.2.1+1))/\(IntKind.wrap .i64 (s.1.2.2.2.1+1))<=(s.1.1.length:Int)) ((Kx ((s.1.1.drop s.1.2.2.2.1.toNat).take ((IntKind.wrap .i64 (s.1.2.2.2.1+1)).toNat-s.1.2.2.2.1.toNat))).bind λy6=>(Lr y6.1).bind λy7=>iteP ((s.2.2.1++([(Int.tmod (IntKind.wrap .i64 ((IntKind.wrap .i64 (s.1.2.2.1*31))+y7.1)) 9973)]:List Int)).length*8<=2 ^ 40) (some (.inl ((s.1.1,(),(Int.tmod (IntKind.wrap .i64 ((IntKind.wrap .i64 (s.1.2.2.1*31))+y7.1)) 9973),(IntKind.wrap .i64 (s.1.2.2.2.1+1)),()),(()),(s.2.2.1++([(Int.tmod (IntKind.wrap .i64 ((IntKind.wrap .i64 (s.1.2.2.1*31))+y7.1)) 9973)]:List Int)),()))) none) none) (some (.inr (((),()),(()),s.2.2)))
def Q8:=nw Jv
def Ru[dE] :=Ie Tryz.f281 [0] NT Jv [TT,UU] [] (by kernel_rfl) λs=>by simp only[Jv,tm];kernel_rfl
def Jz(a0:List rj):Option ((List Int)×Unit):=
 (EL a0).bind λy1=>br (!y1.1) (some (([]:List Int),())) (iteP ((([]:List Int)++([11]:List Int)).length*8<=2 ^ 40) ((Q8 ((a0,(),11,0,()),(()),(([]:List Int)++([11]:List Int)),())).bind λe8=>some e8.2.2) none)
def SY[dE] :=E0 281 Tryz.f281 Qq Nb (λx=>Jz x.1) [Ld] [Ru] (by kernel_rfl) λx=>by simp only[Jz,tm];kernel_rfl
def JY(a0:List rj)(a1:Int):Option (Int×Unit):=
 (Jz a0).bind λy1=>(Ei a1 0 (IntKind.wrap .i64 ((y1.1.length:Int)-1))).bind λy2=>br (!y2.1) (some ((-1),())) (iteP (0<=a1/\a1< (y1.1.length:Int)) ((y1.1[a1.toNat]?).bind λx3=>some (x3,())) none)
def QT[dE] :=E0 268 Tryz.f268 YJ KJ (λx=>JY x.1 x.2.1) [SY,Fb] [] (by kernel_rfl) λx=>by simp only[JY,tm];kernel_rfl
def I2(a0:qj):Option (Int×Unit):=
 (JY a0.learned (a0.learned.length:Int)).bind λy1=>some (y1.1,())
def Qh[dE] :=E0 260 Tryz.f260 Ug KJ (λx=>I2 x.1) [QT] [] (by kernel_rfl) λx=>by simp only[I2,tm];kernel_rfl
def JC(a0:List rj)(a1:Int)(a2:Int):Option (Bool×Unit):=
 br (decide (a2≥0)) ((JY a0 a1).bind λy1=>some ((y1.1==a2),())) (some (false,()))
def QX[dE] :=E0 259 Tryz.f259 YG [.b] (λx=>JC x.1 x.2.1 x.2.2.1) [QT] [] (by kernel_rfl) λx=>by simp only[JC,tm];kernel_rfl
def Hn(a0:qg)(a1:Int)(a2:Int):Option (Int×Unit):=
 (Jm a0 a1 a2).bind λy1=>br (!y1.1) (some ((-1),())) (iteP (0<=a1) ((a0.servers[a1.toNat]?).bind λx2=>(EE x2).bind λy3=>iteP (0<=a2) ((a0.servers[a2.toNat]?).bind λx4=>iteP (0<=a2) ((a0.servers[a2.toNat]?).bind λx5=>(I2 x5).bind λy6=>(JC y3.1 (x4.learned.length:Int) y6.1).bind λy7=>br (!y7.1) (some ((IntKind.wrap .i64 ((y3.1.length:Int)-0)),())) (some ((IntKind.wrap .i64 ((y3.1.length:Int)-(x4.learned.length:Int))),()))) none) none) none)
def RP[dE] :=E0 232 Tryz.f232 R6 KJ (λx=>Hn x.1 x.2.1 x.2.2.1) [Ub,I4,Qh,QX] [] (by kernel_rfl) λx=>by simp only[Hn,tm];kernel_rfl
def Ho(a0:qg)(a1:Int)(a2:Int)(a3:Int):Option (qg×Int×Unit):=
 (EN a0).bind λy1=>(Hn a0 a1 a2).bind λy2=>br (decide (y2.1<0)) (some (y1.1,0,())) ((Ei a3 1 4).bind λy3=>br (!y3.1) (some (y1.1,0,())) (iteP (0<=a1) ((a0.servers[a1.toNat]?).bind λx4=>(EE x4).bind λy5=>iteP (0<=(0:Int)/\(0:Int)<=(IntKind.wrap .i64 ((IntKind.wrap .i64 ((y5.1.length:Int)-y2.1))+(if a3<y2.1 then a3 else y2.1)))/\(IntKind.wrap .i64 ((IntKind.wrap .i64 ((y5.1.length:Int)-y2.1))+(if a3<y2.1 then a3 else y2.1)))<=((y5.1.length:Nat):Int)) (iteP ((0+(0:Int).toNat)+((IntKind.wrap .i64 ((IntKind.wrap .i64 ((y5.1.length:Int)-y2.1))+(if a3<y2.1 then a3 else y2.1))).toNat-(0:Int).toNat)<=y5.1.length) ((FC ((y5.1.drop (0+(0:Int).toNat)).take ((IntKind.wrap .i64 ((IntKind.wrap .i64 ((y5.1.length:Int)-y2.1))+(if a3<y2.1 then a3 else y2.1))).toNat-(0:Int).toNat))).bind λy6=>iteP (0<=a2/\a2< (y1.1.servers.length:Int)) ((y1.1.servers[a2.toNat]?).bind λx7=>some ((⟨y1.1.now,(y1.1.servers.set a2.toNat (⟨x7.up,x7.intact,x7.version,x7.epoch,x7.config,x7.first,x7.log,x7.commit,y6.1⟩:qj)),y1.1.sides,y1.1.master,y1.1.masterUp,y1.1.lease,y1.1.places⟩:qg),(if a3<y2.1 then a3 else y2.1),())) none) none) none) none))
def RQ[dE] :=E0 177 Tryz.f177 YM Od (λx=>Ho x.1 x.2.1 x.2.2.1 x.2.2.2.1) [Fi,RP,Fb,I4,IV] [] (by kernel_rfl) λx=>by simp only[Ho,tm];kernel_rfl
def GI(a0:qg)(a1:Int):Option (qg×Int×Unit):=
 (EN a0).bind λy1=>(Ha a0 a1).bind λy2=>br (!y2.1) (some (y1.1,1,())) (iteP (0<=a1) ((a0.servers[a1.toNat]?).bind λx3=>br (x3.version==2) (some (y1.1,1,())) (iteP (0<=a1) ((a0.servers[a1.toNat]?).bind λx4=>br (!x4.up) (some (y1.1,2,())) (iteP (0<=a1/\a1< (y1.1.servers.length:Int)) ((y1.1.servers[a1.toNat]?).bind λx5=>some ((⟨y1.1.now,(y1.1.servers.set a1.toNat (⟨x5.up,x5.intact,2,x5.epoch,x5.config,x5.first,x5.log,x5.commit,x5.learned⟩:qj)),y1.1.sides,y1.1.master,y1.1.masterUp,y1.1.lease,y1.1.places⟩:qg),0,())) none)) none)) none)
def Ql[dE] :=E0 178 Tryz.f178 Mn Od (λx=>GI x.1 x.2.1) [Fi,MH] [] (by kernel_rfl) λx=>by simp only[GI,tm];kernel_rfl
def HD(a0:List rj):Option (Bool×Unit):=
 (Fe a0).bind λy1=>some (y1.1,())
def Ny[dE] :=E0 233 Tryz.f233 Qq [.b] (λx=>HD x.1) [LC] [] (by kernel_rfl) λx=>by simp only[HD,tm];kernel_rfl
abbrev Iw:LX:=⟨⟨[KI,Oc,Rc,(6,.cl (.ptr 2 0)),W9,P3],[Jr,MP,R7,Xl],Up,0,80⟩,[(.ret,⟨[KI,Oo,Na,LL],[R7,R7],Up,0,80⟩),(.ext 0,⟨[KI,Oo,(5,.cl (.dead)),LL],[MP,R7],Up,0,80⟩)],[],[1,2,4,6,7,8],[1,4,5,6]⟩
def Gq(s: (Int×Unit×Unit×Unit×Unit×Int×Unit)×(MO×Mq×Mq×Xi×Unit)×List qj×List Int×List nE×List uN×Unit):Iw.R:=
 br (decide (s.1.2.2.2.2.2.1< (s.2.1.1.2.1.length:Int))) ((Ic (⟨s.2.1.2.2.2.1.2.2.2.2.1,s.2.1.2.2.2.1.2.2.2.2.2.1,s.2.1.2.2.2.1.2.2.2.2.2.2.1,s.2.1.2.2.2.1.2.2.2.2.2.2.2.1⟩:nE)).bind λy47=>br (!y47.1) (iteP (0<=s.1.2.2.2.2.2.1) ((s.2.1.1.2.1[s.1.2.2.2.2.2.1.toNat]?).bind λx48=>(FY x48.config (⟨s.2.1.2.2.2.1.2.2.2.2.1,s.2.1.2.2.2.1.2.2.2.2.2.1,s.2.1.2.2.2.1.2.2.2.2.2.2.1,s.2.1.2.2.2.1.2.2.2.2.2.2.2.1⟩:nE)).bind λy49=>let j52:Iw.R:=some (.inl ((s.1.1,(),(),(),(),(IntKind.wrap .i64 (s.1.2.2.2.2.2.1+1)),()),s.2));br y49.1 (iteP (0<=s.1.2.2.2.2.2.1) ((s.2.1.1.2.1[s.1.2.2.2.2.2.1.toNat]?).bind λx50=>(HD x50.log).bind λy51=>br y51.1 (some (.inr (.inl ((s.1.1,(),6,(),()),(s.2.1.2.2.1,s.2.1.2.2.1,()),s.2.2)))) (j52)) none) (j52)) none) (some (.inr (.inr ((s.1.1,(),(),(),()),(s.2.1.2.1,s.2.1.2.2.1,()),s.2.2))))) (some (.inr (.inr ((s.1.1,(),(),(),()),(s.2.1.2.1,s.2.1.2.2.1,()),s.2.2))))
def NH:=nw Gq
def N0[dE] :=Ie Tryz.f179 [0] Iw Gq [Ny,N8,JE] [] (by kernel_rfl) λs=>by simp only[Gq,tm];kernel_rfl
def FX(a0:qg)(a1:Int):Option (qg×Int×Unit):=
 (EN a0).bind λy1=>(Ha a0 a1).bind λy2=>br (!y2.1) (some (y1.1,1,())) (iteP (0<=a1) ((a0.servers[a1.toNat]?).bind λx3=>br (x3.version==1) (some (y1.1,1,())) (iteP (0<=a1) ((a0.servers[a1.toNat]?).bind λx4=>br (!x4.up) (some (y1.1,2,())) (iteP (0<=a1) ((a0.servers[a1.toNat]?).bind λx5=>(HD x5.learned).bind λy6=>br y6.1 (some (y1.1,6,())) ((NH ((a1,(),(),(),(),0,()),((a0.now,a0.servers,a0.sides,a0.master.configs,a0.master.activated,a0.masterUp,a0.lease.epoch,a0.lease.holder,a0.lease.ends,a0.places,()),(0,(),(),(),0,0,0,0,0,(),()),(y1.1.now,(),(),(),y1.1.master.activated,y1.1.masterUp,y1.1.lease.epoch,y1.1.lease.holder,y1.1.lease.ends,(),()),(x5.up,x5.intact,x5.version,x5.epoch,x5.config.epoch,x5.config.primary,x5.config.replicas,x5.config.witnesses,x5.first,x5.log,x5.commit,x5.learned,()),()),y1.1.servers,y1.1.sides,y1.1.master.configs,y1.1.places,())).bind λe53=>Sum.elim (λe53_0=>some ((⟨e53_0.2.1.1.1,e53_0.2.2.1,e53_0.2.2.2.1,(⟨e53_0.2.2.2.2.1,e53_0.2.1.1.2.2.2.2.1⟩:jY),e53_0.2.1.1.2.2.2.2.2.1,(⟨e53_0.2.1.1.2.2.2.2.2.2.1,e53_0.2.1.1.2.2.2.2.2.2.2.1,e53_0.2.1.1.2.2.2.2.2.2.2.2.1⟩:uK),e53_0.2.2.2.2.2.1⟩:qg),e53_0.1.2.2.1,())) (λe53_1=>iteP (0<=e53_1.1.1/\e53_1.1.1< (e53_1.2.2.1.length:Int)) ((e53_1.2.2.1[e53_1.1.1.toNat]?).bind λx54=>some ((⟨e53_1.2.1.2.1.1,(e53_1.2.2.1.set e53_1.1.1.toNat (⟨x54.up,x54.intact,1,x54.epoch,x54.config,x54.first,x54.log,x54.commit,x54.learned⟩:qj)),e53_1.2.2.2.1,(⟨e53_1.2.2.2.2.1,e53_1.2.1.2.1.2.2.2.2.1⟩:jY),e53_1.2.1.2.1.2.2.2.2.2.1,(⟨e53_1.2.1.2.1.2.2.2.2.2.2.1,e53_1.2.1.2.1.2.2.2.2.2.2.2.1,e53_1.2.1.2.1.2.2.2.2.2.2.2.2.1⟩:uK),e53_1.2.2.2.2.2.1⟩:qg),0,())) none) e53)) none)) none)) none)
def O2[dE] :=E0 179 Tryz.f179 Mn Od (λx=>FX x.1 x.2.1) [Fi,MH,Ny] [N0] (by kernel_rfl) λx=>by simp only[FX,tm];kernel_rfl
abbrev LU:LX:=⟨⟨[Jq,Ul,MN,NM],[Jr,Xn],Za,0,64⟩,[(.ret,⟨[Pb,Rd],[Yd],Xo,0,64⟩),(.ext 0,⟨[NL,Rd],[Yd],Xo,0,64⟩)],[],[1,3,5,6],[2,3]⟩
def HL(s:ZB×(MO×PF×Unit)×List Int×List Int×List Int×Unit):LU.R:=
 br (decide (s.1.2.2.2.1< (s.2.2.1.length:Int))) (iteP (0<=s.1.2.2.2.1/\s.1.2.2.2.1< (s.2.2.1.length:Int)) ((s.2.2.1[s.1.2.2.2.1.toNat]?).bind λx23=>(FK (⟨s.2.1.1.1,s.2.1.1.2.1,s.2.1.1.2.2.1,(⟨s.2.1.1.2.2.2.1,s.2.1.1.2.2.2.2.1⟩:jY),s.2.1.1.2.2.2.2.2.1,(⟨s.2.1.1.2.2.2.2.2.2.1,s.2.1.1.2.2.2.2.2.2.2.1,s.2.1.1.2.2.2.2.2.2.2.2.1⟩:uK),s.2.1.1.2.2.2.2.2.2.2.2.2.1⟩:qg) s.2.1.2.1.2.1 x23).bind λy24=>br (!y24.1) (some (.inr (.inl (((-1),(),()),s.2.1.2,s.2.2.2)))) (some (.inl (((),(),(),(IntKind.wrap .i64 (s.1.2.2.2.1+1)),()),s.2)))) none) (some (.inr (.inr (((),(),()),s.2.1.2,s.2.2.2))))
def OJ:=nw HL
def OT[dE] :=Ie Tryz.f261 [0] LU HL [Q3] [] (by kernel_rfl) λs=>by simp only[HL,tm];kernel_rfl
def HE(a0:qg):Option (Int×Unit):=
 (Ef a0.master).bind λy1=>(Ea a0).bind λy2=>br (!y2.1) (some ((-1),())) (br (!y1.2.1) (some ((-1),())) (iteP (0<=y1.1.primary) ((a0.servers[y1.1.primary.toNat]?).bind λx3=>(Er x3 y1.1.primary).bind λy4=>br (!y4.1) (some ((-1),())) (iteP (0<=y1.1.primary) ((a0.servers[y1.1.primary.toNat]?).bind λx5=>br (!(x5.config.epoch==y1.1.epoch)) (some ((-1),())) ((EI y1.1).bind λy6=>(OJ (((),(),(),0,()),((a0.now,a0.servers,a0.sides,a0.master.configs,a0.master.activated,a0.masterUp,a0.lease.epoch,a0.lease.holder,a0.lease.ends,a0.places,()),(y1.1.epoch,y1.1.primary,(),(),()),()),y6.1,y1.1.replicas,y1.1.witnesses,())).bind λe25=>Sum.elim (λe25_0=>some (e25_0.1.1,())) (λe25_1=>some (e25_1.2.1.1.2.1,())) e25)) none)) none))
def Pw[dE] :=E0 261 Tryz.f261 R5 KJ (λx=>HE x.1) [Fx,Ek,Iu,Jo] [OT] (by kernel_rfl) λx=>by simp only[HE,tm];kernel_rfl
def Jk(a0:qg):Option (Bool×Unit):=
 (HE a0).bind λy1=>some ((decide (y1.1≥0)),())
def PY[dE] :=E0 235 Tryz.f235 R5 [.b] (λx=>Jk x.1) [Pw] [] (by kernel_rfl) λx=>by simp only[Jk,tm];kernel_rfl
def Kz(a0:qg)(a1:Int):Option (Int×Unit):=
 (Ef a0.master).bind λy1=>(Ea a0).bind λy2=>br (!y2.1) (some (1,())) (br (!y1.2.1) (some (1,())) ((EZ y1.1.replicas a1).bind λy3=>br (!y3.1) (some (1,())) (br (a1==y1.1.primary) (some (1,())) (br (!((a0.master.configs.length:Int)==y1.1.epoch)) (some (1,())) (br (y1.1.epoch==20) (some (1,())) (br (decide ((IntKind.wrap .i64 (a0.masterUp*2))<=3)) (some (8,())) ((Jk a0).bind λy4=>br (!y4.1) (some (10,())) (iteP (0<=y1.1.primary) ((a0.sides[y1.1.primary.toNat]?).bind λx5=>br (!(x5==0)) (some (10,())) (br (decide (a0.lease.ends>0)) (br (!(a0.lease.holder==y1.1.primary)) (some (7,())) (some (0,()))) (some (0,())))) none))))))))
def TV[dE] :=E0 234 Tryz.f234 Mn KJ (λx=>Kz x.1 x.2.1) [Fx,Ek,GM,PY] [] (by kernel_rfl) λx=>by simp only[Kz,tm];kernel_rfl
def GH(a0:qg)(a1:Int):Option (qg×Int×Unit):=
 (EN a0).bind λy1=>(Kz a0 a1).bind λy2=>br (!(y2.1==0)) (some (y1.1,y2.1,())) ((Ef a0.master).bind λy3=>(F7 a0 y3.1.primary).bind λy4=>(FQ (⟨y4.1.now,y4.1.servers,y4.1.sides,y4.1.master,y4.1.masterUp,(⟨0,0,0⟩:uK),y4.1.places⟩:qg) (⟨(IntKind.wrap .i64 (y3.1.epoch+1)),a1,y3.1.replicas,y3.1.witnesses⟩:nE)).bind λy5=>(GC y5.1).bind λy6=>some (y6.1,y6.2.1,()))
def Qk[dE] :=E0 180 Tryz.f180 Mn Od (λx=>GH x.1 x.2.1) [Fi,TV,Fx,Ng,Mg,OG] [] (by kernel_rfl) λx=>by simp only[GH,tm];kernel_rfl
def Hs(a0:qg)(a1:Int)(a2:Int):Option (qg×Int×Unit):=
 (EN a0).bind λy1=>(Ea a0).bind λy2=>br (!y2.1) (some (y1.1,1,())) ((Ei a2 1 50).bind λy3=>br (!y3.1) (some (y1.1,1,())) ((Jk a0).bind λy4=>br y4.1 (some (y1.1,0,())) ((IH a0 a1 0).bind λy5=>br (!y5.2.1) (some (y1.1,10,())) ((FQ a0 y5.1).bind λy6=>br (!(y6.2.1==0)) (some (y1.1,y6.2.1,())) ((J0 a0.lease).bind λy7=>(Iq y6.1 (if (IntKind.wrap .i64 (y7.1-a0.now))>0 then (IntKind.wrap .i64 (y7.1-a0.now)) else 0)).bind λy8=>br (!(y8.2.1==0)) (some (y1.1,y8.2.1,())) ((GC y8.1).bind λy9=>br (!(y9.2.1==0)) (some (y9.1,y9.2.1,())) ((F1 y9.1 y5.1.primary a2).bind λy10=>some (y10.1,y10.2.1,()))))))))
def RU[dE] :=E0 181 Tryz.f181 R6 Od (λx=>Hs x.1 x.2.1 x.2.2.1) [Fi,Ek,Fb,PY,O3,Mg,Q0,QW,OG,O4] [] (by kernel_rfl) λx=>by simp only[Hs,tm];kernel_rfl
def J2(a0:qg)(a1:wN):Option (qg×Int×Unit):=
 let j28 (p17:Int) (p18:List qj) (p19:List Int) (p20:List nE) (p21:Int) (p22:Int) (p23:Int) (p24:Int) (p25:Int) (p26:List uN) (p27:Int):Option (qg×Int×Unit):=some ((⟨p17,p18,p19,(⟨p20,p21⟩:jY),p22,(⟨p23,p24,p25⟩:uK),p26⟩:qg),p27,());br (a1.kind==3) ((F1 a0 a1.server a1.n).bind λy1=>j28 y1.1.now y1.1.servers y1.1.sides y1.1.master.configs y1.1.master.activated y1.1.masterUp y1.1.lease.epoch y1.1.lease.holder y1.1.lease.ends y1.1.places y1.2.1) (br (a1.kind==4) ((IH a0 a1.n a1.other).bind λy2=>br (!y2.2.1) ((EN a0).bind λy3=>some (y3.1,10,())) ((FQ a0 y2.1).bind λy4=>j28 y4.1.now y4.1.servers y4.1.sides y4.1.master.configs y4.1.master.activated y4.1.masterUp y4.1.lease.epoch y4.1.lease.holder y4.1.lease.ends y4.1.places y4.2.1)) (br (a1.kind==5) ((GC a0).bind λy5=>j28 y5.1.now y5.1.servers y5.1.sides y5.1.master.configs y5.1.master.activated y5.1.masterUp y5.1.lease.epoch y5.1.lease.holder y5.1.lease.ends y5.1.places y5.2.1) (br (a1.kind==6) ((Hp a0 a1.server).bind λy6=>j28 y6.1.now y6.1.servers y6.1.sides y6.1.master.configs y6.1.master.activated y6.1.masterUp y6.1.lease.epoch y6.1.lease.holder y6.1.lease.ends y6.1.places y6.2.1) (br (a1.kind==7) ((GG a0 a1.server).bind λy7=>j28 y7.1.now y7.1.servers y7.1.sides y7.1.master.configs y7.1.master.activated y7.1.masterUp y7.1.lease.epoch y7.1.lease.holder y7.1.lease.ends y7.1.places y7.2.1) (br (a1.kind==8) ((Ja a0 a1.server).bind λy8=>j28 y8.1.now y8.1.servers y8.1.sides y8.1.master.configs y8.1.master.activated y8.1.masterUp y8.1.lease.epoch y8.1.lease.holder y8.1.lease.ends y8.1.places y8.2.1) (br (a1.kind==9) ((HQ a0 a1.server a1.n).bind λy9=>j28 y9.1.now y9.1.servers y9.1.sides y9.1.master.configs y9.1.master.activated y9.1.masterUp y9.1.lease.epoch y9.1.lease.holder y9.1.lease.ends y9.1.places y9.2.1) (br (a1.kind==10) ((HU a0 a1.n).bind λy10=>j28 y10.1.now y10.1.servers y10.1.sides y10.1.master.configs y10.1.master.activated y10.1.masterUp y10.1.lease.epoch y10.1.lease.holder y10.1.lease.ends y10.1.places y10.2.1) (br (a1.kind==11) ((Iq a0 a1.n).bind λy11=>j28 y11.1.now y11.1.servers y11.1.sides y11.1.master.configs y11.1.master.activated y11.1.masterUp y11.1.lease.epoch y11.1.lease.holder y11.1.lease.ends y11.1.places y11.2.1) (br (a1.kind==12) ((Ho a0 a1.server a1.other a1.n).bind λy12=>br (y12.2.1==0) (j28 y12.1.now y12.1.servers y12.1.sides y12.1.master.configs y12.1.master.activated y12.1.masterUp y12.1.lease.epoch y12.1.lease.holder y12.1.lease.ends y12.1.places 11) (j28 y12.1.now y12.1.servers y12.1.sides y12.1.master.configs y12.1.master.activated y12.1.masterUp y12.1.lease.epoch y12.1.lease.holder y12.1.lease.ends y12.1.places 0)) (br (a1.kind==13) ((GI a0 a1.server).bind λy13=>j28 y13.1.now y13.1.servers y13.1.sides y13.1.master.configs y13.1.master.activated y13.1.masterUp y13.1.lease.epoch y13.1.lease.holder y13.1.lease.ends y13.1.places y13.2.1) (br (a1.kind==14) ((FX a0 a1.server).bind λy14=>j28 y14.1.now y14.1.servers y14.1.sides y14.1.master.configs y14.1.master.activated y14.1.masterUp y14.1.lease.epoch y14.1.lease.holder y14.1.lease.ends y14.1.places y14.2.1) (br (a1.kind==15) ((GH a0 a1.server).bind λy15=>j28 y15.1.now y15.1.servers y15.1.sides y15.1.master.configs y15.1.master.activated y15.1.masterUp y15.1.lease.epoch y15.1.lease.holder y15.1.lease.ends y15.1.places y15.2.1) ((Hs a0 a1.other a1.n).bind λy16=>j28 y16.1.now y16.1.servers y16.1.sides y16.1.master.configs y16.1.master.activated y16.1.masterUp y16.1.lease.epoch y16.1.lease.holder y16.1.lease.ends y16.1.places y16.2.1)))))))))))))
def Wg[dE] :=E0 100 Tryz.f100 YN Od (λx=>J2 x.1 x.2.1) [O4,O3,Fi,Mg,OG,RR,Qj,UZ,S8,Td,QW,RQ,Ql,O2,Qk,RU] [] (by kernel_rfl) λx=>by simp only[J2,tm];kernel_rfl
def HT(a0:qg)(a1:wN):Option (qg×wR×Unit):=
 (Ea a0).bind λy1=>br (!y1.1) ((EN a0).bind λy2=>some (y2.1,(⟨1,(⟨false,0⟩:Result),0⟩:wR),())) ((Ip a1).bind λy3=>br (!y3.1) ((EN a0).bind λy4=>some (y4.1,(⟨1,(⟨false,0⟩:Result),0⟩:wR),())) (br (a1.kind==1) ((I8 a0 a1.server a1.op).bind λy5=>some (y5.1,y5.2.1,())) (br (a1.kind==2) ((EN a0).bind λy6=>(Ky a0 a1.server a1.n).bind λy7=>some (y6.1,y7.1,())) ((J2 a0 a1).bind λy8=>some (y8.1,(⟨y8.2.1,(⟨false,0⟩:Result),0⟩:wR),())))))
def QZ[dE] :=E0 38 Tryz.f38 YN aah (λx=>HT x.1 x.2.1) [Ek,Fi,QV,UV,TU,Wg] [] (by kernel_rfl) λx=>by simp only[HT,tm];kernel_rfl
abbrev OA:LX:=⟨⟨[(1,.cl (.ro (.st .event))),VG,NM],[R7],Up,0,36⟩,[(.ret,⟨[Om,VG],[R7],Up,0,36⟩),(.ext 0,⟨[O9,VG],[R7],Up,0,36⟩)],[],[1,5,6],[4,5]⟩
def Kh(s: (List wN×Unit×Int×Unit)×(Mq×Unit)×List qj×List Int×List nE×List uN×Unit):OA.R:=
 br (decide (s.1.2.2.1< (s.1.1.length:Int))) (br (decide (s.1.2.2.1<60)) ((FJ (⟨s.2.1.1.1,s.2.2.1,s.2.2.2.1,(⟨s.2.2.2.2.1,s.2.1.1.2.2.2.2.1⟩:jY),s.2.1.1.2.2.2.2.2.1,(⟨s.2.1.1.2.2.2.2.2.2.1,s.2.1.1.2.2.2.2.2.2.2.1,s.2.1.1.2.2.2.2.2.2.2.2.1⟩:uK),s.2.2.2.2.2.1⟩:qg)).bind λy14=>br (!y14.1) (some (.inr (.inl ((false,(),()),s.2)))) (iteP (0<=s.1.2.2.1) ((s.1.1[s.1.2.2.1.toNat]?).bind λx15=>(HT (⟨s.2.1.1.1,s.2.2.1,s.2.2.2.1,(⟨s.2.2.2.2.1,s.2.1.1.2.2.2.2.1⟩:jY),s.2.1.1.2.2.2.2.2.1,(⟨s.2.1.1.2.2.2.2.2.2.1,s.2.1.1.2.2.2.2.2.2.2.1,s.2.1.1.2.2.2.2.2.2.2.2.1⟩:uK),s.2.2.2.2.2.1⟩:qg) x15).bind λy16=>some (.inl ((s.1.1,(),(IntKind.wrap .i64 (s.1.2.2.1+1)),()),((y16.1.now,(),(),(),y16.1.master.activated,y16.1.masterUp,y16.1.lease.epoch,y16.1.lease.holder,y16.1.lease.ends,(),()),()),y16.1.servers,y16.1.sides,y16.1.master.configs,y16.1.places,()))) none)) (some (.inr (.inr (((),(),()),s.2))))) (some (.inr (.inr (((),(),()),s.2))))
def R4:=nw Kh
def Sl[dE] :=Ie Tryz.f19 [0] OA Kh [LB,QZ] [] (by kernel_rfl) λs=>by simp only[Kh,tm];kernel_rfl
def KB(a0:qg)(a1:List wN):Option (Bool×Unit):=
 (EN a0).bind λy1=>(R4 ((a1,(),0,()),((y1.1.now,(),(),(),y1.1.master.activated,y1.1.masterUp,y1.1.lease.epoch,y1.1.lease.holder,y1.1.lease.ends,(),()),()),y1.1.servers,y1.1.sides,y1.1.master.configs,y1.1.places,())).bind λe17=>Sum.elim (λe17_0=>some (e17_0.1.1,())) (λe17_1=>(FJ (⟨e17_1.2.1.1.1,e17_1.2.2.1,e17_1.2.2.2.1,(⟨e17_1.2.2.2.2.1,e17_1.2.1.1.2.2.2.2.1⟩:jY),e17_1.2.1.1.2.2.2.2.2.1,(⟨e17_1.2.1.1.2.2.2.2.2.2.1,e17_1.2.1.1.2.2.2.2.2.2.2.1,e17_1.2.1.1.2.2.2.2.2.2.2.2.1⟩:uK),e17_1.2.2.2.2.2.1⟩:qg)).bind λy18=>some (y18.1,())) e17
def T0[dE] :=E0 19 Tryz.f19 YO [.b] (λx=>KB x.1 x.2.1) [Fi,LB] [Sl] (by kernel_rfl) λx=>by simp only[KB,tm];kernel_rfl
abbrev Oy:LX:=⟨⟨[(1,.cl (.ro (.st .event))),Oo,LL,YV,P3],[MP,Ve],Zb,0,40⟩,[(.ext 0,⟨[Oo,LL,YV],[MP,Ve],Zb,0,40⟩)],[],[1,4,6,7,8],[4,6,7]⟩
def IM(s: (List wN×Unit×Unit×Unit×Int×Unit)×(Mq×Mq×Unit)×List wR×List qj×List Int×List nE×List uN×Unit):Oy.R:=
 br (decide (s.1.2.2.2.2.1< (s.1.1.length:Int))) (br (decide (s.1.2.2.2.2.1<60)) (iteP (0<=s.1.2.2.2.2.1) ((s.1.1[s.1.2.2.2.2.1.toNat]?).bind λx21=>(HT (⟨s.2.1.2.1.1,s.2.2.2.1,s.2.2.2.2.1,(⟨s.2.2.2.2.2.1,s.2.1.2.1.2.2.2.2.1⟩:jY),s.2.1.2.1.2.2.2.2.2.1,(⟨s.2.1.2.1.2.2.2.2.2.2.1,s.2.1.2.1.2.2.2.2.2.2.2.1,s.2.1.2.1.2.2.2.2.2.2.2.2.1⟩:uK),s.2.2.2.2.2.2.1⟩:qg) x21).bind λy22=>iteP ((s.2.2.1++([y22.2.1]:List wR)).length*32<=2 ^ 40) (some (.inl ((s.1.1,(),(),(),(IntKind.wrap .i64 (s.1.2.2.2.2.1+1)),()),(s.2.1.1,(y22.1.now,(),(),(),y22.1.master.activated,y22.1.masterUp,y22.1.lease.epoch,y22.1.lease.holder,y22.1.lease.ends,(),()),()),(s.2.2.1++([y22.2.1]:List wR)),y22.1.servers,y22.1.sides,y22.1.master.configs,y22.1.places,()))) none) none) (some (.inr (((),(),(),()),s.2)))) (some (.inr (((),(),(),()),s.2)))
def R3:=nw IM
def Sj[dE] :=Ie Tryz.f12 [0] Oy IM [QZ] [] (by kernel_rfl) λs=>by simp only[IM,tm];kernel_rfl
def HK(a0:qg)(a1:List wN):Option (qg×(List wR)×Unit):=
 (EN a0).bind λy1=>(R3 ((a1,(),(),(),0,()),((0,(),(),(),0,0,0,0,0,(),()),(y1.1.now,(),(),(),y1.1.master.activated,y1.1.masterUp,y1.1.lease.epoch,y1.1.lease.holder,y1.1.lease.ends,(),()),()),([]:List wR),y1.1.servers,y1.1.sides,y1.1.master.configs,y1.1.places,())).bind λe23=>some ((⟨e23.2.1.2.1.1,e23.2.2.2.1,e23.2.2.2.2.1,(⟨e23.2.2.2.2.2.1,e23.2.1.2.1.2.2.2.2.1⟩:jY),e23.2.1.2.1.2.2.2.2.2.1,(⟨e23.2.1.2.1.2.2.2.2.2.2.1,e23.2.1.2.1.2.2.2.2.2.2.2.1,e23.2.1.2.1.2.2.2.2.2.2.2.2.1⟩:uK),e23.2.2.2.2.2.2.1⟩:qg),e23.2.2.1,())
def TX[dE] :=E0 12 Tryz.f12 YO [.st .cluster,.ls (.st .reply)] (λx=>HK x.1 x.2.1) [Fi] [Sj] (by kernel_rfl) λx=>by simp only[HK,tm];kernel_rfl
abbrev Nc:LX:=⟨⟨[Jq,Rc,(5,.cl (.bl)),NM,OL],[Jr,Yd],Xo,0,78⟩,[(.ext 0,⟨[Jq,(5,.cl (.bl)),NM],[Jr],[],0,78⟩)],[],[1,4,5,6,7],[1,5,6]⟩
def K4(s: (Unit×Unit×Bool×Int×Int×Unit)×(MO×PF×Unit)×List Int×List Int×Unit):Nc.R:=
 br (decide (s.1.2.2.2.2.1< (s.2.2.1.length:Int))) (br s.1.2.2.1 (iteP (0<=s.1.2.2.2.2.1/\s.1.2.2.2.2.1< (s.2.2.1.length:Int)) ((s.2.2.1[s.1.2.2.2.2.1.toNat]?).bind λx20=>iteP (0<=x20) ((s.2.1.1.2.1[x20.toNat]?).bind λx21=>let j25 (p24:Int):Nc.R:=some (.inl (((),(),s.1.2.2.1,p24,(IntKind.wrap .i64 (s.1.2.2.2.2.1+1)),()),s.2));br (x21.config.epoch==s.2.1.2.1.1) (br (decide (s.1.2.2.2.1<0)) (j25 x20) (iteP (0<=x20) ((s.2.1.1.2.1[x20.toNat]?).bind λx22=>iteP (0<=s.1.2.2.2.1) ((s.2.1.1.2.1[s.1.2.2.2.1.toNat]?).bind λx23=>br (decide ((x22.log.length:Int)>(x23.log.length:Int))) (j25 x20) (j25 s.1.2.2.2.1)) none) none)) (j25 s.1.2.2.2.1)) none) none) (some (.inr (((),s.1.2.2.1,s.1.2.2.2.1,()),(s.2.1.1,()),(()))))) (some (.inr (((),s.1.2.2.1,s.1.2.2.2.1,()),(s.2.1.1,()),(()))))
def M8:=nw K4
def Tw[dE] :=Ie Tryz.f21 [0] Nc K4 [] [] (by kernel_rfl) λs=>by simp only[K4,tm];kernel_rfl
def I9(a0:qg):Option ((List rj)×Bool×Unit):=
 (Ef a0.master).bind λy1=>(Ea a0).bind λy2=>br (!y2.1) (some (([]:List rj),false,())) ((M8 (((),(),y1.2.1,(-1),0,()),((a0.now,a0.servers,a0.sides,a0.master.configs,a0.master.activated,a0.masterUp,a0.lease.epoch,a0.lease.holder,a0.lease.ends,a0.places,()),(y1.1.epoch,y1.1.primary,(),(),()),()),y1.1.replicas,y1.1.witnesses,())).bind λe26=>br (decide (e26.1.2.2.1<0)) (some (([]:List rj),(!e26.1.2.1),())) (iteP (0<=e26.1.2.2.1) ((e26.2.1.1.2.1[e26.1.2.2.1.toNat]?).bind λx27=>(FC x27.log).bind λy28=>some (y28.1,true,())) none))
def UW[dE] :=E0 21 Tryz.f21 R5 Wn (λx=>I9 x.1) [Fx,Ek,IV] [Tw] (by kernel_rfl) λx=>by simp only[I9,tm];kernel_rfl
def Ep(a0:Int)(a1:Int)(a2:Int):Option (Bool×Unit):=
 br (decide (a1<=a0)) (some ((decide (a0<=a2)),())) (some (false,()))
def GY[dE] :=E0 101 Tryz.f101 W3 [.b] (λx=>Ep x.1 x.2.1 x.2.2.1) [] [] (by kernel_rfl) λx=>by simp only[Ep,tm];kernel_rfl
abbrev NP:LX:=⟨⟨[NN,(5,.cl (.ro (.i .i64))),NM,OL],[],[],0,29⟩,[(.ret,⟨[OK],[],[],0,29⟩),(.ext 0,⟨[NL],[],[],0,29⟩)],[],[0,5,6,7],[2]⟩
def FS(s:Y2×Unit×Unit):NP.R:=
 br (decide (s.1.2.2.2.1<s.1.2.2.1)) (iteP (0<=s.1.2.2.2.1) ((s.1.2.1[s.1.2.2.2.1.toNat]?).bind λx5=>(Ep x5 0 4).bind λy6=>br (!y6.1) (some (.inr (.inl ((false,()),(()),(()))))) (br (decide (s.1.2.2.2.1>0)) (iteP (0<=(IntKind.wrap .i64 (s.1.2.2.2.1-1))) ((s.1.1[(IntKind.wrap .i64 (s.1.2.2.2.1-1)).toNat]?).bind λx7=>br (decide (x5<=x7)) (some (.inr (.inl ((false,()),(()),(()))))) (some (.inl ((s.1.1,s.1.2.1,s.1.2.2.1,(IntKind.wrap .i64 (s.1.2.2.2.1+1)),()),(()),(()))))) none) (some (.inl ((s.1.1,s.1.2.1,s.1.2.2.1,(IntKind.wrap .i64 (s.1.2.2.2.1+1)),()),(()),(())))))) none) (some (.inr (.inr (((),()),(()),(())))))
def JH:=nw FS
def Rq[dE] :=Ie Tryz.f186 [0] NP FS [GY] [] (by kernel_rfl) λs=>by simp only[FS,tm];kernel_rfl
def GJ(a0:List Int):Option (Bool×Unit):=
 (JH ((a0,a0,(a0.length:Int),0,()),(()),(()))).bind λe8=>Sum.elim (λe8_0=>some e8_0.1) (λ_=>some (true,())) e8
def SR[dE] :=E0 186 Tryz.f186 U9 [.b] (λx=>GJ x.1) [] [Rq] (by kernel_rfl) λx=>by simp only[GJ,tm];kernel_rfl
abbrev NY:LX:=⟨⟨[NN,KI,OL,P3],[],[],0,19⟩,[(.ret,⟨[Ma],[],[],0,19⟩),(.ext 0,⟨[O9],[],[],0,19⟩)],[],[0,1,7,8],[4]⟩
def Hy(s: (List Int×Int×Int×Int×Unit)×Unit×Unit):NY.R:=
 br (decide (s.1.2.2.2.1<s.1.2.2.1)) (iteP (0<=s.1.2.2.2.1) ((s.1.1[s.1.2.2.2.1.toNat]?).bind λx5=>br (s.1.2.1==x5) (some (.inr (.inl (s.1.2.2.2,(()),(()))))) (some (.inl ((s.1.1,s.1.2.1,s.1.2.2.1,(IntKind.wrap .i64 (s.1.2.2.2.1+1)),()),(()),(()))))) none) (some (.inr (.inr (((),()),(()),(())))))
def LK:=nw Hy
def RC[dE] :=Ie Tryz.f262 [0] NY Hy [] [] (by kernel_rfl) λs=>by simp only[Hy,tm];kernel_rfl
def Lb(a0:List Int)(a1:Int):Option (Int×Unit):=
 (LK ((a0,a1,(a0.length:Int),0,()),(()),(()))).bind λe6=>Sum.elim (λe6_0=>some e6_0.1) (λ_=>some ((-1),())) e6
def Ti[dE] :=E0 262 Tryz.f262 Uh KJ (λx=>Lb x.1 x.2.1) [] [RC] (by kernel_rfl) λx=>by simp only[Lb,tm];kernel_rfl
def I3(a0:List Int)(a1:Int):Option (Bool×Unit):=
 (Lb a0 a1).bind λy1=>some ((decide (y1.1≥0)),())
def Qn[dE] :=E0 238 Tryz.f238 Uh [.b] (λx=>I3 x.1 x.2.1) [Ti] [] (by kernel_rfl) λx=>by simp only[I3,tm];kernel_rfl
def Hg(a0:List Int)(a1:Int):Option (Bool×Unit):=
 (I3 a0 a1).bind λy1=>some (y1.1,())
def L7[dE] :=E0 187 Tryz.f187 Uh [.b] (λx=>Hg x.1 x.2.1) [Qn] [] (by kernel_rfl) λx=>by simp only[Hg,tm];kernel_rfl
def HV(a0:List Int):Option ((List Int)×Unit):=iteP (a0.length*8<=2 ^ 40) (some (a0,())) none
def Tg[dE] :=coC 80 Tryz.f80 (.i .i64) 8 HV (by kernel_rfl) (λ_=>rfl) λ_=>by kernel_rfl
def OF(a0:Int):Option (Int×Unit):=
 br (decide (a0≥4294967296)) (none) (br (decide (a0≥65536)) (none) (br (decide (a0≥256)) (none) (iteP (0<=(IntKind.wrap .u8 a0)) ((sb0[(IntKind.wrap .u8 a0).toNat]?).bind λx1=>some ((IntKind.wrap .i64 (0+(IntKind.wrap .i64 (x1.toNat:Int)))),())) none)))
def UQ[dE] :=E0 279 Tryz.f279 [.ty (.i .u64)] KJ (λx=>OF x.1) [] [] (by kernel_rfl) λx=>by simp only[OF,tm];kernel_rfl
def Ns(a0:Int):Option (Int×Unit):=
 (OF a0).bind λy1=>some (y1.1,())
def WU[dE] :=E0 266 Tryz.f266 [.ty (.i .u64)] KJ (λx=>Ns x.1) [UQ] [] (by kernel_rfl) λx=>by simp only[Ns,tm];kernel_rfl
def H7(a0:Int):Option (Bool×Unit):=
 some ((!(a0==a0)),())
def RL[dE] :=E0 287 Tryz.f287 Ui [.b] (λx=>H7 x.1) [] [] (by kernel_rfl) λx=>by simp only[H7,tm];kernel_rfl
def HM(a0:Int)(a1:Int):Option (Bool×Unit):=
 (H7 a0).bind λy1=>br y1.1 ((H7 a1).bind λy2=>br (!y2.1) (some (true,())) (some ((decide (a0<a1)),()))) (some ((decide (a0<a1)),()))
def SQ[dE] :=E0 275 Tryz.f275 YP [.b] (λx=>HM x.1 x.2.1) [RL] [] (by kernel_rfl) λx=>by simp only[HM,tm];kernel_rfl
abbrev Hj:LX:=⟨⟨[NK,KI,Pb,NM,OL],[],Iv,1,49⟩,[(.ext 2,⟨[NK,KI,Pb,NM],[],Iv,1,49⟩)],[],[0,1,2,6,7],[0,1,2,6]⟩
def Eu(s: (Unit×Int×Int×Int×Int×Unit)×Unit×List Int×Unit):Hj.R:=
 br (decide (s.1.2.2.2.2.1>s.1.2.1)) (iteP (0<=s.1.2.2.2.2.1/\s.1.2.2.2.2.1< (s.2.2.1.length:Int)) ((s.2.2.1[s.1.2.2.2.2.1.toNat]?).bind λx10=>iteP (0<=(IntKind.wrap .i64 (s.1.2.2.2.2.1-1))/\(IntKind.wrap .i64 (s.1.2.2.2.2.1-1))< (s.2.2.1.length:Int)) ((s.2.2.1[(IntKind.wrap .i64 (s.1.2.2.2.2.1-1)).toNat]?).bind λx11=>(HM x10 x11).bind λy12=>br y12.1 (iteP (0<=(IntKind.wrap .i64 (s.1.2.2.2.2.1-1))/\(IntKind.wrap .i64 (s.1.2.2.2.2.1-1))< (s.2.2.1.length:Int)) ((s.2.2.1[(IntKind.wrap .i64 (s.1.2.2.2.2.1-1)).toNat]?).bind λx13=>iteP (0<=s.1.2.2.2.2.1/\s.1.2.2.2.2.1< (s.2.2.1.length:Int)) ((s.2.2.1[s.1.2.2.2.2.1.toNat]?).bind λx14=>iteP (0<=s.1.2.2.2.2.1/\s.1.2.2.2.2.1< (s.2.2.1.length:Int)) (iteP (0<=(IntKind.wrap .i64 (s.1.2.2.2.2.1-1))/\(IntKind.wrap .i64 (s.1.2.2.2.2.1-1))< (s.2.2.1.length:Int)) ((s.2.2.1[s.1.2.2.2.2.1.toNat]?).bind λ_=>let z16:=s.2.2.1.set s.1.2.2.2.2.1.toNat x13;(z16[(IntKind.wrap .i64 (s.1.2.2.2.2.1-1)).toNat]?).bind λ_=>some (.inl (((),s.1.2.1,s.1.2.2.1,s.1.2.2.2.1,(IntKind.wrap .i64 (s.1.2.2.2.2.1-1)),()),(()),(z16.set ((IntKind.wrap .i64 (s.1.2.2.2.2.1-1)).toNat) x14),()))) none) none) none) none) (some (.inr (((),s.1.2.1,s.1.2.2.1,s.1.2.2.2.1,()),(()),s.2.2)))) none) none) (some (.inr (((),s.1.2.1,s.1.2.2.1,s.1.2.2.2.1,()),(()),s.2.2)))
def Fr:=nw Eu
def JP[dE] :=Ie Tryz.f269 [0,0] Hj Eu [SQ] [] (by kernel_rfl) λs=>by simp only[Eu,tm];kernel_rfl
abbrev Hi:LX:=⟨⟨[NK,KI,Pb,NM],[],Iv,1,49⟩,[(.ext 0,⟨[],[],Iv,1,49⟩)],[],[0,1,2,6],[]⟩
def Ej(s: (Unit×Int×Int×Int×Unit)×Unit×List Int×Unit):Hi.R:=
 br (decide (s.1.2.2.2.1<s.1.2.2.1)) ((Fr (((),s.1.2.1,s.1.2.2.1,s.1.2.2.2.1,s.1.2.2.2),(()),s.2.2)).bind λe19=>some (.inl (((),e19.1.2.1,e19.1.2.2.1,(IntKind.wrap .i64 (e19.1.2.2.2.1+1)),()),(()),e19.2.2))) (some (.inr ((()),(()),s.2.2)))
def Fq:=nw Ej
def JO[dE] :=Ie Tryz.f269 [0] Hi Ej [] [JP] (by kernel_rfl) λs=>by simp only[Ej,tm];kernel_rfl
def EB(a0:List Int)(a1:Int)(a2:Int):Option ((List Int)×Unit):=
 (Fq (((),a1,a2,(IntKind.wrap .i64 (a1+1)),()),(()),a0,())).bind λe20=>some e20.2.2
def J4[dE] :=coI 269 Tryz.f269 (.i .i64) YP [] (λl x=>EB l x.1 x.2.1) [] [JO] (by kernel_rfl) λl x=>by simp only[EB,tm];kernel_rfl
abbrev Ix:LX:=⟨⟨[NK,KI,Pb,M9,Um,Oq],[],Iv,1,134⟩,[(.ret,⟨[],[],Iv,1,134⟩)],[],[0,1,2,3,8,9],[]⟩
def Fu(s: (Unit×Int×Int×Int×Bool×Bool×Unit)×Unit×List Int×Unit):Ix.R:=
 br (decide ((IntKind.wrap .i64 (s.1.2.2.1-s.1.2.1))<=12)) ((EB s.2.2.1 s.1.2.1 s.1.2.2.1).bind λy7=>iteP (y7.1.length=s.2.2.1.length) (some (.inr ((()),(()),y7.1,()))) none) (br (s.1.2.2.2.1==0) (none) (br (!s.1.2.2.2.2.1) (none) (none)))
def GZ:=nw Fu
def L3[dE] :=Ie Tryz.f265 [0] Ix Fu [J4] [] (by kernel_rfl) λs=>by simp only[Fu,tm,-eq_self];kernel_rfl
def Fa(a0:List Int)(a1:Int)(a2:Int)(a3:Int):Option ((List Int)×Unit):=
 (GZ (((),a1,a2,a3,true,true,()),(()),a0,())).bind λe8=>some e8.2.2
def Mh[dE] :=coI 265 Tryz.f265 (.i .i64) W3 [] (λl x=>Fa l x.1 x.2.1 x.2.2.1) [] [L3] (by kernel_rfl) λl x=>by simp only[Fa,tm];kernel_rfl
def GX(a0:List Int):Option ((List Int)×Unit):=
 (Ns (IntKind.wrap .u64 (a0.length:Int))).bind λy1=>(Fa a0 0 (a0.length:Int) y1.1).bind λy2=>iteP (y2.1.length=a0.length) (some (y2.1,())) none
def Q5[dE] :=coI 240 Tryz.f240 (.i .i64) [] [] (λl _=>GX l) [WU,Mh] [] (by kernel_rfl) λl x=>by simp only[GX,tm,-eq_self];kernel_rfl
abbrev K0:LX:=⟨⟨[NK,M9,(4,.cl (.sub 0 (.i .i64))),Na],[],Iv,0,61⟩,[(.ext 2,⟨[NK,M9],[],Iv,0,61⟩)],[],[0,3,4,5],[0,3]⟩
def F4(s: (Unit×Int×(Nat×Nat)×Int×Unit)×Unit×List Int×Unit):K0.R:=
 br (decide (s.1.2.2.2.1< ((s.1.2.2.1.2:Nat):Int))) (iteP (0<=s.1.2.2.2.1/\s.1.2.2.2.1< ((s.1.2.2.1.2:Nat):Int)) ((s.2.2.1[(s.1.2.2.1.1+s.1.2.2.2.1.toNat)]?).bind λx9=>iteP (0<=(IntKind.wrap .i64 (s.1.2.2.2.1-1))/\(IntKind.wrap .i64 (s.1.2.2.2.1-1))< ((s.1.2.2.1.2:Nat):Int)) ((s.2.2.1[(s.1.2.2.1.1+(IntKind.wrap .i64 (s.1.2.2.2.1-1)).toNat)]?).bind λx10=>br (!(x9==x10)) (iteP (0<=s.1.2.2.2.1/\s.1.2.2.2.1< ((s.1.2.2.1.2:Nat):Int)) ((s.2.2.1[(s.1.2.2.1.1+s.1.2.2.2.1.toNat)]?).bind λx11=>iteP (0<=s.1.2.1/\s.1.2.1< (s.2.2.1.length:Int)) ((s.2.2.1[s.1.2.1.toNat]?).bind λ_=>some (.inl (((),(IntKind.wrap .i64 (s.1.2.1+1)),s.1.2.2.1,(IntKind.wrap .i64 (s.1.2.2.2.1+1)),()),(()),(s.2.2.1.set s.1.2.1.toNat x11),()))) none) none) (some (.inl (((),s.1.2.1,s.1.2.2.1,(IntKind.wrap .i64 (s.1.2.2.2.1+1)),()),(()),s.2.2)))) none) none) (some (.inr (((),s.1.2.1,()),(()),s.2.2)))
def KY:=nw F4
def Of[dE] :=Ie Tryz.f241 [0,0] K0 F4 [] [] (by kernel_rfl) λs=>by simp only[F4,tm];kernel_rfl
abbrev KZ:LX:=⟨⟨[NK,M9],[],Iv,0,61⟩,[(.ret,⟨[NK,(2,.cl (.sub 0 (.i .i64)))],[],Iv,0,61⟩),(.ext 0,⟨[NK,NL],[],Iv,0,61⟩)],[],[0,3],[0,2]⟩
def ET(s:Va×Unit×List Int×Unit):KZ.R:=
 br (decide (s.1.2.1< (s.2.2.1.length:Int))) (iteP (0<=s.1.2.1/\s.1.2.1< (s.2.2.1.length:Int)) ((s.2.2.1[s.1.2.1.toNat]?).bind λx3=>iteP (0<=(IntKind.wrap .i64 (s.1.2.1-1))/\(IntKind.wrap .i64 (s.1.2.1-1))< (s.2.2.1.length:Int)) ((s.2.2.1[(IntKind.wrap .i64 (s.1.2.1-1)).toNat]?).bind λx4=>br (x3==x4) (iteP (0<=s.1.2.1/\s.1.2.1<=(s.2.2.1.length:Int)/\(s.2.2.1.length:Int)<=((s.2.2.1.length:Nat):Int)) ((KY (((),s.1.2.1,((0+s.1.2.1.toNat),((s.2.2.1.length:Int).toNat-s.1.2.1.toNat)),1,()),(()),s.2.2)).bind λe16=>iteP (0<=e16.1.2.1/\e16.1.2.1<=(e16.2.2.1.length:Int)/\(e16.2.2.1.length:Int)<=((e16.2.2.1.length:Nat):Int)) (iteP ((0+e16.1.2.1.toNat)+((e16.2.2.1.length:Int).toNat-e16.1.2.1.toNat)<=e16.2.2.1.length) (iteP (0<=(0:Int)/\(0:Int)<=e16.1.2.1/\e16.1.2.1<=((e16.2.2.1.length:Nat):Int)) (some (.inr (.inl (((),((0+(0:Int).toNat),(e16.1.2.1.toNat-(0:Int).toNat)),()),(()),(e16.2.2.1.take (0+e16.1.2.1.toNat)++List.replicate ((e16.2.2.1.length:Int).toNat-e16.1.2.1.toNat) (0:Int)++e16.2.2.1.drop ((0+e16.1.2.1.toNat)+((e16.2.2.1.length:Int).toNat-e16.1.2.1.toNat))),())))) none) none) none) none) (some (.inl (((),(IntKind.wrap .i64 (s.1.2.1+1)),()),(()),s.2.2)))) none) none) (some (.inr (.inr (((),(),()),(()),s.2.2))))
def IK:=nw ET
def Oe[dE] :=Ie Tryz.f241 [0] KZ ET [] [Of] (by kernel_rfl) λs=>by simp only[ET,tm];kernel_rfl
def F3(a0:List Int):Option ((List Int)×Unit):=
 br (decide ((a0.length:Int)<2)) (some (a0,())) ((IK (((),1,()),(()),a0,())).bind λe17=>Sum.elim (λe17_0=>iteP (e17_0.1.2.1.1=0/\e17_0.1.2.1.2<=e17_0.2.2.1.length) (some ((e17_0.2.2.1.take e17_0.1.2.1.2),())) (iteP (e17_0.1.2.1.1+e17_0.1.2.1.2<=e17_0.2.2.1.length) (some (((e17_0.2.2.1.drop e17_0.1.2.1.1).take e17_0.1.2.1.2),())) none)) (λe17_1=>some e17_1.2.2) e17)
def O7[dE] :=coM 241 Tryz.f241 (.i .i64) [] Nb (λl _=>F3 l) [] [Oe] (by kernel_rfl) λl x=>by simp only[F3,tm,-eq_self];kernel_rfl
def HJ(a0:List Int):Option ((List Int)×Unit):=
 (HV a0).bind λy1=>(GX y1.1).bind λy2=>iteP (y2.1.length=y1.1.length) ((F3 y2.1).bind λy3=>some (y3.1,())) none
def TO[dE] :=E0 189 Tryz.f189 U9 Nb (λx=>HJ x.1) [Tg,Q5,O7] [] (by kernel_rfl) λx=>by simp only[HJ,tm,-eq_self];kernel_rfl
def F5(a0:Int)(a1:List Int):Option (Bool×Unit):=
 (Hg a1 a0).bind λy1=>some (y1.1,())
def KX[dE] :=E0 264 Tryz.f264 [.ty (.i .i64),.pr (.ls (.i .i64))] [.b] (λx=>F5 x.1 x.2.1) [L7] [] (by kernel_rfl) λx=>by simp only[F5,tm];kernel_rfl
abbrev Gz:LX:=⟨⟨[NN,(1,.fn 264 [.pro (.ls (.i .i64))]),OL,P3],[],[],0,19⟩,[(.ret,⟨[Ma],[],[],0,19⟩),(.ext 0,⟨[O9],[],[],0,19⟩)],[],[0,1,7,8],[4]⟩
def Et(s: (List Int×(List Int×Unit)×Int×Int×Unit)×Unit×Unit):Gz.R:=
 br (decide (s.1.2.2.2.1<s.1.2.2.1)) (iteP (0<=s.1.2.2.2.1) ((s.1.1[s.1.2.2.2.1.toNat]?).bind λx5=>(F5 x5 s.1.2.1.1).bind λy6=>br y6.1 (some (.inr (.inl (s.1.2.2.2,(()),(()))))) (some (.inl ((s.1.1,s.1.2.1,s.1.2.2.1,(IntKind.wrap .i64 (s.1.2.2.2.1+1)),()),(()),(()))))) none) (some (.inr (.inr (((),()),(()),(())))))
def FB:=nw Et
def IJ[dE] :=Ie Tryz.f114 [0] Gz Et [KX] [] (by kernel_rfl) λs=>by simp only[Et,tm];kernel_rfl
def Fh(a0:List Int)(a1_0:List Int):Option (Int×Unit):=
 (FB ((a0,(a1_0,()),(a0.length:Int),0,()),(()),(()))).bind λe7=>Sum.elim (λe7_0=>some e7_0.1) (λ_=>some ((-1),())) e7
def IX[dE] :=E0 114 Tryz.f114 [.ty (.ls (.i .i64)),.fn 264 Nb] KJ (λx=>Fh x.1 x.2.1.1) [] [IJ] (by kernel_rfl) λx=>by simp only[Fh,tm];kernel_rfl
abbrev Gb:LX:=⟨⟨[NK,(1,.fn 264 [.pro (.ls (.i .i64))]),Na,NM],[],Iv,0,42⟩,[(.ext 0,⟨[NK,Na],[],Iv,0,42⟩)],[],[0,1,5,6],[0,5]⟩
def Es(s: (Unit×(List Int×Unit)×Int×Int×Unit)×Unit×List Int×Unit):Gb.R:=
 br (decide (s.1.2.2.2.1< (s.2.2.1.length:Int))) (iteP (0<=s.1.2.2.2.1/\s.1.2.2.2.1< (s.2.2.1.length:Int)) ((s.2.2.1[s.1.2.2.2.1.toNat]?).bind λx6=>(F5 x6 s.1.2.1.1).bind λy7=>br (!y7.1) (iteP (0<=s.1.2.2.1/\s.1.2.2.1< (s.2.2.1.length:Int)) ((s.2.2.1[s.1.2.2.1.toNat]?).bind λ_=>some (.inl (((),s.1.2.1,(IntKind.wrap .i64 (s.1.2.2.1+1)),(IntKind.wrap .i64 (s.1.2.2.2.1+1)),()),(()),(s.2.2.1.set s.1.2.2.1.toNat x6),()))) none) (some (.inl (((),s.1.2.1,s.1.2.2.1,(IntKind.wrap .i64 (s.1.2.2.2.1+1)),()),(()),s.2.2)))) none) (some (.inr (((),s.1.2.2.1,()),(()),s.2.2)))
def Ga:=nw Es
def H2[dE] :=Ie Tryz.f263 [0] Gb Es [KX] [] (by kernel_rfl) λs=>by simp only[Es,tm];kernel_rfl
def EC(a0:List Int)(a1_0:List Int):Option ((List Int)×Unit):=
 (Fh a0 a1_0).bind λy1=>br (y1.1==(-1)) (some (a0,())) ((Ga (((),(a1_0,()),y1.1,(IntKind.wrap .i64 (y1.1+1)),()),(()),a0,())).bind λe12=>iteP (0<=e12.1.2.1/\e12.1.2.1<=(e12.2.2.1.length:Int)/\(e12.2.2.1.length:Int)<=((e12.2.2.1.length:Nat):Int)) (iteP ((0+e12.1.2.1.toNat)+((e12.2.2.1.length:Int).toNat-e12.1.2.1.toNat)<=e12.2.2.1.length) (iteP (0<=(0:Int)/\(0:Int)<=e12.1.2.1/\e12.1.2.1<=((e12.2.2.1.length:Nat):Int)) (iteP ((0+(0:Int).toNat)=0/\(e12.1.2.1.toNat-(0:Int).toNat)<=(e12.2.2.1.take (0+e12.1.2.1.toNat)++List.replicate ((e12.2.2.1.length:Int).toNat-e12.1.2.1.toNat) (0:Int)++e12.2.2.1.drop ((0+e12.1.2.1.toNat)+((e12.2.2.1.length:Int).toNat-e12.1.2.1.toNat))).length) (some (((e12.2.2.1.take (0+e12.1.2.1.toNat)++List.replicate ((e12.2.2.1.length:Int).toNat-e12.1.2.1.toNat) (0:Int)++e12.2.2.1.drop ((0+e12.1.2.1.toNat)+((e12.2.2.1.length:Int).toNat-e12.1.2.1.toNat))).take (e12.1.2.1.toNat-(0:Int).toNat)),())) (iteP ((0+(0:Int).toNat)+(e12.1.2.1.toNat-(0:Int).toNat)<=(e12.2.2.1.take (0+e12.1.2.1.toNat)++List.replicate ((e12.2.2.1.length:Int).toNat-e12.1.2.1.toNat) (0:Int)++e12.2.2.1.drop ((0+e12.1.2.1.toNat)+((e12.2.2.1.length:Int).toNat-e12.1.2.1.toNat))).length) (some ((((e12.2.2.1.take (0+e12.1.2.1.toNat)++List.replicate ((e12.2.2.1.length:Int).toNat-e12.1.2.1.toNat) (0:Int)++e12.2.2.1.drop ((0+e12.1.2.1.toNat)+((e12.2.2.1.length:Int).toNat-e12.1.2.1.toNat))).drop (0+(0:Int).toNat)).take (e12.1.2.1.toNat-(0:Int).toNat)),())) none)) none) none) none)
def Ii[dE] :=coM 263 Tryz.f263 (.i .i64) [.fn 264 Nb] Nb (λl x=>EC l x.1.1) [IX] [H2] (by kernel_rfl) λl x=>by simp only[EC,tm,-eq_self];kernel_rfl
def GR(a0:List Int)(a1:List Int):Option ((List Int)×Unit):=
 (HJ a0).bind λy1=>(EC y1.1 a1).bind λy2=>some (y2.1,())
def Pr[dE] :=E0 239 Tryz.f239 Uj Nb (λx=>GR x.1 x.2.1) [TO,Ii] [] (by kernel_rfl) λx=>by simp only[GR,tm];kernel_rfl
def HY(a0:List Int)(a1:List Int):Option ((List Int)×Unit):=
 (GR a0 a1).bind λy1=>(GR a0 y1.1).bind λy2=>some (y2.1,())
def Qb[dE] :=E0 188 Tryz.f188 Uj Nb (λx=>HY x.1 x.2.1) [Pr] [] (by kernel_rfl) λx=>by simp only[HY,tm];kernel_rfl
def GB(a0:nE):Option (Bool×Unit):=
 (Ep a0.epoch 1 20).bind λy1=>br y1.1 ((GJ a0.replicas).bind λy2=>br y2.1 ((GJ a0.witnesses).bind λy3=>br y3.1 ((Hg a0.replicas a0.primary).bind λy4=>br y4.1 ((HY a0.replicas a0.witnesses).bind λy5=>some (((y5.1.length:Int)==0),())) (some (false,()))) (some (false,()))) (some (false,()))) (some (false,()))
def Nf[dE] :=E0 112 Tryz.f112 Wk [.b] (λx=>GB x.1) [GY,SR,L7,Qb] [] (by kernel_rfl) λx=>by simp only[GB,tm];kernel_rfl
abbrev Nl:LX:=⟨⟨[Jq,(6,.cl (.ro (.st .config))),OL,P3],[Vc],[],0,30⟩,[(.ret,⟨[Jq,OK],[Vc],[],0,30⟩),(.ext 0,⟨[Jq,NL],[Vc],[],0,30⟩)],[],[1,6,7,8],[1,2]⟩
def G4(s: (Unit×List nE×Int×Int×Unit)×(ZC×Unit)×Unit):Nl.R:=
 br (decide (s.1.2.2.2.1<s.1.2.2.1)) (iteP (0<=s.1.2.2.2.1) ((s.1.2.1[s.1.2.2.2.1.toNat]?).bind λx6=>(GB x6).bind λy7=>br (!y7.1) (some (.inr (.inl (((),false,()),s.2.1,(()))))) (br (!(x6.epoch==(IntKind.wrap .i64 (s.1.2.2.2.1+1)))) (some (.inr (.inl (((),false,()),s.2.1,(()))))) (some (.inl (((),s.1.2.1,s.1.2.2.1,(IntKind.wrap .i64 (s.1.2.2.2.1+1)),()),s.2.1,(())))))) none) (some (.inr (.inr (((),(),()),s.2.1,(())))))
def KO:=nw G4
def Qt[dE] :=Ie Tryz.f103 [0] Nl G4 [Nf] [] (by kernel_rfl) λs=>by simp only[G4,tm];kernel_rfl
def H8(a0:jY):Option (Bool×Unit):=
 (KO (((),a0.configs,(a0.configs.length:Int),0,()),((a0.configs,a0.activated,()),()),(()))).bind λe8=>Sum.elim (λe8_0=>some e8_0.1.2) (λe8_1=>(Ep e8_1.2.1.1.2.1 0 (e8_1.2.1.1.1.length:Int)).bind λy9=>some (y9.1,())) e8
def Oi[dE] :=E0 103 Tryz.f103 Wl [.b] (λx=>H8 x.1) [GY] [Qt] (by kernel_rfl) λx=>by simp only[H8,tm];kernel_rfl
def FW(a0:nE):Option (nE×Unit):=
 iteP ((([]:List Int)++a0.replicas).length*8<=2 ^ 40) (iteP ((([]:List Int)++a0.witnesses).length*8<=2 ^ 40) (some ((⟨a0.epoch,a0.primary,(([]:List Int)++a0.replicas),(([]:List Int)++a0.witnesses)⟩:nE),())) none) none
def SW[dE] :=E0 120 Tryz.f120 Wk [.st .config] (λx=>FW x.1) [] [] (by kernel_rfl) λx=>by simp only[FW,tm];kernel_rfl
def Io(a0:jY)(a1:Int):Option (nE×Bool×Unit):=
 (H8 a0).bind λy1=>br (!y1.1) (some ((⟨0,0,([]:List Int),([]:List Int)⟩:nE),false,())) ((Ep a1 1 (a0.configs.length:Int)).bind λy2=>br (!y2.1) (some ((⟨0,0,([]:List Int),([]:List Int)⟩:nE),false,())) (iteP (0<=(IntKind.wrap .i64 (a1-1))) ((a0.configs[(IntKind.wrap .i64 (a1-1)).toNat]?).bind λx3=>(FW x3).bind λy4=>some (y4.1,true,())) none))
def QP[dE] :=E0 55 Tryz.f55 W5 Wm (λx=>Io x.1 x.2.1) [Oi,GY,SW] [] (by kernel_rfl) λx=>by simp only[Io,tm];kernel_rfl
def EY(a0:jY):Option (nE×Bool×Unit):=
 (Io a0 a0.activated).bind λy1=>some (y1.1,y1.2.1,())
def Qd[dE] :=E0 15 Tryz.f15 Wl Wm (λx=>EY x.1) [QP] [] (by kernel_rfl) λx=>by simp only[EY,tm];kernel_rfl
def Kj(a0:Int):Option (Bool×Unit):=
 (Ep a0 0 3).bind λy1=>some ((!y1.1),())
def RM[dE] :=E0 182 Tryz.f182 Ui [.b] (λx=>Kj x.1) [GY] [] (by kernel_rfl) λx=>by simp only[Kj,tm];kernel_rfl
abbrev Hu:LX:=⟨⟨[NN,(1,.cl (.fc 182)),OL,P3],[],[],0,19⟩,[(.ret,⟨[Ma],[],[],0,19⟩),(.ext 0,⟨[O9],[],[],0,19⟩)],[],[0,1,7,8],[4]⟩
def EM(s: (List Int×Unit×Int×Int×Unit)×Unit×Unit):Hu.R:=
 br (decide (s.1.2.2.2.1<s.1.2.2.1)) (iteP (0<=s.1.2.2.2.1) ((s.1.1[s.1.2.2.2.1.toNat]?).bind λx4=>(Kj x4).bind λy5=>br y5.1 (some (.inr (.inl (s.1.2.2.2,(()),(()))))) (some (.inl ((s.1.1,(),s.1.2.2.1,(IntKind.wrap .i64 (s.1.2.2.2.1+1)),()),(()),(()))))) none) (some (.inr (.inr (((),()),(()),(())))))
def Gd:=nw EM
def JR[dE] :=Ie Tryz.f114 [0] Hu EM [RM] [] (by kernel_rfl) λs=>by simp only[EM,tm];kernel_rfl
def FE(a0:List Int):Option (Int×Unit):=
 (Gd ((a0,(),(a0.length:Int),0,()),(()),(()))).bind λe6=>Sum.elim (λe6_0=>some e6_0.1) (λ_=>some ((-1),())) e6
def KH[dE] :=E0 114 Tryz.f114 YQ KJ (λx=>FE x.1) [] [JR] (by kernel_rfl) λx=>by simp only[FE,tm];kernel_rfl
def Fo(a0:List Int):Option (Bool×Unit):=
 (FE a0).bind λy1=>some ((decide (y1.1≥0)),())
def JF[dE] :=E0 48 Tryz.f48 YQ [.b] (λx=>Fo x.1) [KH] [] (by kernel_rfl) λx=>by simp only[Fo,tm];kernel_rfl
def I7(a0:List Int):Option (Bool×Unit):=
 br ((a0.length:Int)==5) ((Fo a0).bind λy1=>some ((!y1.1),())) (some (false,()))
def QN[dE] :=E0 102 Tryz.f102 U9 [.b] (λx=>I7 x.1) [JF] [] (by kernel_rfl) λx=>by simp only[I7,tm];kernel_rfl
def Gx(a0:uK):Option (Bool×Unit):=
 br ((a0.epoch==0)&&((a0.holder==0)&&((a0.ends==0)&&true))) (some (true,())) ((Ep a0.epoch 1 20).bind λy1=>br y1.1 ((Ep a0.holder 0 4).bind λy2=>br y2.1 ((Ep a0.ends 1 1049).bind λy3=>some (y3.1,())) (some (false,()))) (some (false,())))
def Wa[dE] :=E0 104 Tryz.f104 W6 [.b] (λx=>Gx x.1) [GY] [] (by kernel_rfl) λx=>by simp only[Gx,tm];kernel_rfl
def Jx(a0:uN):Option (Bool×Unit):=
 (Ep a0.rack 0 9).bind λy1=>br (!y1.1) (some (true,())) ((Ep a0.capacity 0 9).bind λy2=>br (!y2.1) (some (true,())) ((Ep a0.load 0 99).bind λy3=>some ((!y3.1),())))
def QL[dE] :=E0 184 Tryz.f184 [.ty (.st .place)] [.b] (λx=>Jx x.1) [GY] [] (by kernel_rfl) λx=>by simp only[Jx,tm];kernel_rfl
abbrev G0:LX:=⟨⟨[Rb,(1,.cl (.fc 184)),OL,P3],[],[],0,19⟩,[(.ret,⟨[Ma],[],[],0,19⟩),(.ext 0,⟨[O9],[],[],0,19⟩)],[],[0,1,7,8],[4]⟩
def Ez(s: (List uN×Unit×Int×Int×Unit)×Unit×Unit):G0.R:=
 br (decide (s.1.2.2.2.1<s.1.2.2.1)) (iteP (0<=s.1.2.2.2.1) ((s.1.1[s.1.2.2.2.1.toNat]?).bind λx4=>(Jx x4).bind λy5=>br y5.1 (some (.inr (.inl (s.1.2.2.2,(()),(()))))) (some (.inl ((s.1.1,(),s.1.2.2.1,(IntKind.wrap .i64 (s.1.2.2.2.1+1)),()),(()),(()))))) none) (some (.inr (.inr (((),()),(()),(())))))
def FL:=nw Ez
def Je[dE] :=Ie Tryz.f237 [0] G0 Ez [QL] [] (by kernel_rfl) λs=>by simp only[Ez,tm];kernel_rfl
def Fp(a0:List uN):Option (Int×Unit):=
 (FL ((a0,(),(a0.length:Int),0,()),(()),(()))).bind λe6=>Sum.elim (λe6_0=>some e6_0.1) (λ_=>some ((-1),())) e6
def JG[dE] :=E0 237 Tryz.f237 YR KJ (λx=>Fp x.1) [] [Je] (by kernel_rfl) λx=>by simp only[Fp,tm];kernel_rfl
def Fg(a0:List uN):Option (Bool×Unit):=
 (Fp a0).bind λy1=>some ((decide (y1.1≥0)),())
def IW[dE] :=E0 183 Tryz.f183 YR [.b] (λx=>Fg x.1) [JG] [] (by kernel_rfl) λx=>by simp only[Fg,tm];kernel_rfl
def Jh(a0:List uN):Option (Bool×Unit):=
 br ((a0.length:Int)==5) ((Fg a0).bind λy1=>some ((!y1.1),())) (some (false,()))
def TM[dE] :=E0 105 Tryz.f105 W4 [.b] (λx=>Jh x.1) [IW] [] (by kernel_rfl) λx=>by simp only[Jh,tm];kernel_rfl
def Ji(a0:Op):Option (Bool×Unit):=
 (Ep a0.client 0 2).bind λy1=>br (!y1.1) (some (false,())) ((Ep a0.seq 1 99).bind λy2=>br (!y2.1) (some (false,())) ((Ep a0.object 0 2).bind λy3=>br (!y3.1) (some (false,())) ((Ep a0.value 0 9).bind λy4=>br (!y4.1) (some (false,())) (br (a0.kind==1) (br (a0.old==0) (some (true,())) (br (a0.kind==2) ((Ep a0.old 0 9).bind λy5=>some (y5.1,())) (some (false,())))) (br (a0.kind==2) ((Ep a0.old 0 9).bind λy6=>some (y6.1,())) (some (false,())))))))
def TN[dE] :=E0 145 Tryz.f145 VA [.b] (λx=>Ji x.1) [GY] [] (by kernel_rfl) λx=>by simp only[Ji,tm];kernel_rfl
abbrev Sy:LX:=⟨⟨[Mb,(5,.cl (.ro (.st .entry))),NM,OL],[],[],0,41⟩,[(.ret,⟨[Mb,OK],[],[],0,41⟩),(.ext 0,⟨[Mb,NL],[],[],0,41⟩)],[],[0,5,6,7],[0,2]⟩
def Li(s:Y3×Unit×Unit):Sy.R:=
 br (decide (s.1.2.2.2.1<s.1.2.2.1)) (iteP (0<=s.1.2.2.2.1) ((s.1.2.1[s.1.2.2.2.1.toNat]?).bind λx5=>(Ep x5.epoch 1 20).bind λy6=>br (!y6.1) (some (.inr (.inl ((s.1.1,false,()),(()),(()))))) (br (decide (s.1.2.2.2.1>0)) (iteP (0<=(IntKind.wrap .i64 (s.1.2.2.2.1-1))) ((s.1.1[(IntKind.wrap .i64 (s.1.2.2.2.1-1)).toNat]?).bind λx7=>br (decide (x5.epoch<x7.epoch)) (some (.inr (.inl ((s.1.1,false,()),(()),(()))))) ((Ji x5.op).bind λy8=>br (!y8.1) (some (.inr (.inl ((s.1.1,false,()),(()),(()))))) (some (.inl ((s.1.1,s.1.2.1,s.1.2.2.1,(IntKind.wrap .i64 (s.1.2.2.2.1+1)),()),(()),(())))))) none) ((Ji x5.op).bind λy9=>br (!y9.1) (some (.inr (.inl ((s.1.1,false,()),(()),(()))))) (some (.inl ((s.1.1,s.1.2.1,s.1.2.2.1,(IntKind.wrap .i64 (s.1.2.2.2.1+1)),()),(()),(()))))))) none) (some (.inr (.inr ((s.1.1,(),()),(()),(())))))
def PB:=nw Li
def Wr[dE] :=Ie Tryz.f119 [0] Sy Li [GY,TN] [] (by kernel_rfl) λs=>by simp only[Li,tm];kernel_rfl
def Jy(a0:List rj):Option (Bool×Unit):=
 (PB ((a0,a0,(a0.length:Int),0,()),(()),(()))).bind λe10=>Sum.elim (λe10_0=>some e10_0.1.2) (λe10_1=>some ((decide ((e10_1.1.1.length:Int)<=16)),())) e10
def ST[dE] :=E0 119 Tryz.f119 Qq [.b] (λx=>Jy x.1) [] [Wr] (by kernel_rfl) λx=>by simp only[Jy,tm];kernel_rfl
abbrev NX:LX:=⟨⟨[NN,Pa,Pc,(13,.cl (.int .i64))],[],[],0,26⟩,[(.ret,⟨[Om],[],[],0,26⟩),(.ext 0,⟨[O9],[],[],0,26⟩)],[],[0,1,12,13],[4]⟩
def Hx(s:Y2×Unit×Unit):NX.R:=
 br (decide (s.1.2.2.2.1<s.1.2.2.1)) (iteP (0<=s.1.2.2.2.1) ((s.1.1[s.1.2.2.2.1.toNat]?).bind λx5=>iteP (0<=s.1.2.2.2.1) ((s.1.2.1[s.1.2.2.2.1.toNat]?).bind λx6=>br (!(x5==x6)) (some (.inr (.inl ((false,()),(()),(()))))) (some (.inl ((s.1.1,s.1.2.1,s.1.2.2.1,(IntKind.wrap .i64 (s.1.2.2.2.1+1)),()),(()),(()))))) none) none) (some (.inr (.inr (((),()),(()),(())))))
def LJ:=nw Hx
def RB[dE] :=Ie Tryz.f34 [0] NX Hx [] [] (by kernel_rfl) λs=>by simp only[Hx,tm];kernel_rfl
def La(a0:List Int)(a1:List Int):Option (Bool×Unit):=
 br (!((a0.length:Int)==(a1.length:Int))) (some (false,())) ((LJ ((a0,a1,(a0.length:Int),0,()),(()),(()))).bind λe7=>Sum.elim (λe7_0=>some e7_0.1) (λ_=>some (true,())) e7)
def Th[dE] :=E0 34 Tryz.f34 Uj [.b] (λx=>La x.1 x.2.1) [] [RB] (by kernel_rfl) λx=>by simp only[La,tm];kernel_rfl
def HA(a0:List Int)(a1:List Int):Option (Bool×Unit):=
 (La a0 a1).bind λy1=>some (y1.1,())
def QQ[dE] :=E0 160 Tryz.f160 Uj [.b] (λx=>HA x.1 x.2.1) [Th] [] (by kernel_rfl) λx=>by simp only[HA,tm];kernel_rfl
def Gs(a0:nE)(a1:nE):Option (Bool×Unit):=
 br (a0.epoch==a1.epoch) (br (a0.primary==a1.primary) ((HA a0.replicas a1.replicas).bind λy1=>br y1.1 ((HA a0.witnesses a1.witnesses).bind λy2=>some (y2.1,())) (some (false,()))) (some (false,()))) (some (false,()))
def Nx[dE] :=E0 92 Tryz.f92 YE [.b] (λx=>Gs x.1 x.2.1) [QQ] [] (by kernel_rfl) λx=>by simp only[Gs,tm];kernel_rfl
def Jj(a0:List rj):Option (Int×Unit):=
 br ((a0.length:Int)==0) (some (0,())) (iteP (0<=(IntKind.wrap .i64 ((a0.length:Int)-1))) ((a0[(IntKind.wrap .i64 ((a0.length:Int)-1)).toNat]?).bind λx1=>some (x1.epoch,())) none)
def PV[dE] :=E0 107 Tryz.f107 Qq KJ (λx=>Jj x.1) [] [] (by kernel_rfl) λx=>by simp only[Jj,tm];kernel_rfl
def Ks(a0:nE)(a1:Int):Option (Int×Unit):=
 (GB a0).bind λy1=>br (!y1.1) (some (0,())) (br (a1==a0.primary) (some (1,())) ((Hg a0.replicas a1).bind λy2=>br y2.1 (some (2,())) ((Hg a0.witnesses a1).bind λy3=>br y3.1 (some (3,())) (some (0,())))))
def WV[dE] :=E0 118 Tryz.f118 YF KJ (λx=>Ks x.1 x.2.1) [Nf,L7] [] (by kernel_rfl) λx=>by simp only[Ks,tm];kernel_rfl
def Lq(a0:Int)(a1:List rj):Option (Bool×Unit):=
 (Jy a1).bind λy1=>br y1.1 (br (decide ((a1.length:Int)<=3)) ((Ep a0 0 (IntKind.wrap .i64 (16-(a1.length:Int)))).bind λy2=>br y2.1 (br (a0==0) (some (true,())) (some (((a1.length:Int)==3),()))) (some (false,()))) (some (false,()))) (some (false,()))
def TQ[dE] :=E0 131 Tryz.f131 YK [.b] (λx=>Lq x.1 x.2.1) [ST,GY] [] (by kernel_rfl) λx=>by simp only[Lq,tm];kernel_rfl
def G6(a0:qj)(a1:Int):Option (Bool×Unit):=
 (Ep a0.version 1 2).bind λy1=>br (!y1.1) (some (false,())) ((Ep a0.epoch 0 20).bind λy2=>br (!y2.1) (some (false,())) ((Jy a0.log).bind λy3=>br (!y3.1) (some (false,())) ((Jy a0.learned).bind λy4=>br (!y4.1) (some (false,())) ((Ep a0.first 0 16).bind λy5=>br (!y5.1) (some (false,())) (br (decide ((IntKind.wrap .i64 (a0.first+(a0.log.length:Int)))>16)) (some (false,())) ((Ep a0.commit 0 (IntKind.wrap .i64 (a0.first+(a0.log.length:Int)))).bind λy6=>br (!y6.1) (some (false,())) ((Gs a0.config (⟨0,0,([]:List Int),([]:List Int)⟩:nE)).bind λy7=>br y7.1 (br (a0.first==0) (br (a0.commit==0) (some (((a0.log.length:Int)==0),())) (some (false,()))) (some (false,()))) (br (!a0.intact) (some (false,())) (br (decide (a0.epoch<a0.config.epoch)) (some (false,())) ((Jj a0.log).bind λy8=>br (decide (y8.1>a0.config.epoch)) (some (false,())) ((Ks a0.config a1).bind λy9=>br (y9.1==1) (some ((a0.first==0),())) (br (y9.1==2) (some ((a0.first==0),())) (br (y9.1==3) ((Lq a0.first a0.log).bind λy12=>some (y12.1,())) (some (false,())))))))))))))))
def Qc[dE] :=E0 106 Tryz.f106 Uk [.b] (λx=>G6 x.1 x.2.1) [GY,ST,Nx,PV,WV,TQ] [] (by kernel_rfl) λx=>by simp only[G6,tm];kernel_rfl
abbrev LN:LX:=⟨⟨[Jq,(57,.cl (.ro (.st .server))),(58,.cl (.int .i64)),(59,.cl (.int .i64))],[Jr],[],0,118⟩,[(.ret,⟨[OK],[],[],0,118⟩),(.ext 0,⟨[NL],[],[],0,118⟩)],[],[1,57,58,59],[2]⟩
def Gg(s: (Unit×List qj×Int×Int×Unit)×(MO×Unit)×Unit):LN.R:=
 br (decide (s.1.2.2.2.1<s.1.2.2.1)) (iteP (0<=s.1.2.2.2.1) ((s.1.2.1[s.1.2.2.2.1.toNat]?).bind λx20=>(G6 x20 s.1.2.2.2.1).bind λy21=>br (!y21.1) (some (.inr (.inl ((false,()),(()),(()))))) (br (decide (x20.epoch>(s.2.1.1.2.2.2.1.length:Int))) (some (.inr (.inl ((false,()),(()),(()))))) ((Jj x20.learned).bind λy22=>br (decide (y22.1>s.2.1.1.2.2.2.2.1)) (some (.inr (.inl ((false,()),(()),(()))))) ((Gs x20.config (⟨0,0,([]:List Int),([]:List Int)⟩:nE)).bind λy23=>br y23.1 (some (.inl (((),s.1.2.1,s.1.2.2.1,(IntKind.wrap .i64 (s.1.2.2.2.1+1)),()),s.2.1,(())))) ((Io (⟨s.2.1.1.2.2.2.1,s.2.1.1.2.2.2.2.1⟩:jY) x20.config.epoch).bind λy24=>br (!y24.2.1) (some (.inr (.inl ((false,()),(()),(()))))) ((Gs y24.1 x20.config).bind λy25=>br (!y25.1) (some (.inr (.inl ((false,()),(()),(()))))) (br (decide (x20.config.epoch>s.2.1.1.2.2.2.2.1)) (some (.inr (.inl ((false,()),(()),(()))))) (some (.inl (((),s.1.2.1,s.1.2.2.1,(IntKind.wrap .i64 (s.1.2.2.2.1+1)),()),s.2.1,(()))))))))))) none) (some (.inr (.inr (((),()),(()),(())))))
def Jc:=nw Gg
def OM[dE] :=Ie Tryz.f42 [0] LN Gg [Qc,PV,Nx,QP] [] (by kernel_rfl) λs=>by simp only[Gg,tm];kernel_rfl
def Fy(a0:qg):Option (Bool×Unit):=
 (Ep a0.now 0 999).bind λy1=>br (!y1.1) (some (false,())) (br (!((a0.servers.length:Int)==5)) (some (false,())) ((I7 a0.sides).bind λy2=>br (!y2.1) (some (false,())) ((H8 a0.master).bind λy3=>br (!y3.1) (some (false,())) ((Gx a0.lease).bind λy4=>br (!y4.1) (some (false,())) ((Jh a0.places).bind λy5=>br (!y5.1) (some (false,())) ((Ep a0.masterUp 0 3).bind λy6=>br (!y6.1) (some (false,())) (br (decide (a0.lease.epoch>a0.master.activated)) (some (false,())) ((Jc (((),a0.servers,(a0.servers.length:Int),0,()),((a0.now,a0.servers,a0.sides,a0.master.configs,a0.master.activated,a0.masterUp,a0.lease.epoch,a0.lease.holder,a0.lease.ends,a0.places,()),()),(()))).bind λe26=>Sum.elim (λe26_0=>some e26_0.1) (λ_=>some (true,())) e26))))))))
def Pq[dE] :=E0 42 Tryz.f42 R5 [.b] (λx=>Fy x.1) [GY,QN,Oi,Wa,TM] [OM] (by kernel_rfl) λx=>by simp only[Fy,tm];kernel_rfl
def EU(a0:qg)(a1:Int):Option (Bool×Unit):=
 (Fy a0).bind λy1=>br y1.1 ((Ep a1 0 4).bind λy2=>some (y2.1,())) (some (false,()))
def RN[dE] :=E0 63 Tryz.f63 Mn [.b] (λx=>EU x.1 x.2.1) [Pq,GY] [] (by kernel_rfl) λx=>by simp only[EU,tm];kernel_rfl
def Hm(a0:List Int)(a1:Int)(a2:Int):Option (Bool×Unit):=
 (I7 a0).bind λy1=>br y1.1 ((Ep a1 0 4).bind λy2=>br y2.1 ((Ep a2 0 4).bind λy3=>br y3.1 (iteP (0<=a1) ((a0[a1.toNat]?).bind λx4=>iteP (0<=a2) ((a0[a2.toNat]?).bind λx5=>some ((x4==x5),())) none) none) (some (false,()))) (some (false,()))) (some (false,()))
def QR[dE] :=E0 65 Tryz.f65 W7 [.b] (λx=>Hm x.1 x.2.1 x.2.2.1) [QN,GY] [] (by kernel_rfl) λx=>by simp only[Hm,tm];kernel_rfl
def JW(a0:qg)(a1:Int)(a2:Int)(a3:Int):Option (Bool×Unit):=
 iteP (0<=a2) ((a0.servers[a2.toNat]?).bind λx1=>br x1.up ((Hm a0.sides a1 a2).bind λy2=>br y2.1 (some ((x1.config.epoch==a3),())) (some (false,()))) (some (false,()))) none
def UT[dE] :=E0 64 Tryz.f64 YM [.b] (λx=>JW x.1 x.2.1 x.2.2.1 x.2.2.2.1) [QR] [] (by kernel_rfl) λx=>by simp only[JW,tm];kernel_rfl
def Fv(a0:List rj):Option ((List rj)×Unit):=iteP (a0.length*56<=2 ^ 40) (some (a0,())) none
def NC[dE] :=coC 111 Tryz.f111 (.st .entry) 56 Fv (by kernel_rfl) (λ_=>rfl) λ_=>by kernel_rfl
def HX(a0:qj):Option ((List rj)×Unit):=
 br (decide (a0.first<0)) (some (([]:List rj),())) ((Ep a0.commit a0.first (IntKind.wrap .i64 (a0.first+(a0.log.length:Int)))).bind λy1=>br (!y1.1) (some (([]:List rj),())) (iteP (0<=(0:Int)/\(0:Int)<=(IntKind.wrap .i64 (a0.commit-a0.first))/\(IntKind.wrap .i64 (a0.commit-a0.first))<=(a0.log.length:Int)) ((Fv ((a0.log.drop (0:Int).toNat).take ((IntKind.wrap .i64 (a0.commit-a0.first)).toNat-(0:Int).toNat))).bind λy2=>some (y2.1,())) none))
def Qa[dE] :=E0 133 Tryz.f133 Ug Vb (λx=>HX x.1) [GY,NC] [] (by kernel_rfl) λx=>by simp only[HX,tm];kernel_rfl
def Ku(a0:qj)(a1:Int):Option (Bool×Unit):=
 (Hg a0.config.replicas a1).bind λy1=>some (y1.1,())
def TP[dE] :=E0 134 Tryz.f134 Uk [.b] (λx=>Ku x.1 x.2.1) [L7] [] (by kernel_rfl) λx=>by simp only[Ku,tm];kernel_rfl
def G7(a0:qj)(a1:Int):Option ((List rj)×Unit):=
 (HX a0).bind λy1=>(Ku a0 a1).bind λy2=>br y2.1 (br (decide ((y1.1.length:Int)>(a0.learned.length:Int))) (some (y1.1,())) ((Fv a0.learned).bind λy4=>some (y4.1,()))) ((Fv a0.learned).bind λy5=>some (y5.1,()))
def Qe[dE] :=E0 67 Tryz.f67 Uk Vb (λx=>G7 x.1 x.2.1) [Qa,TP,NC] [] (by kernel_rfl) λx=>by simp only[G7,tm];kernel_rfl
def HH(a1:Int):Option ((List rj)×Unit):=
 br (decide (a1<0)) (none) (br (decide ((IntKind.wrap .i64 (a1-(IntKind.wrap .i64 (0-0))))>0)) (iteP ((0:Int)=0/\(0:Int)=0) (iteP (0< (IntKind.wrap .i64 (a1-(IntKind.wrap .i64 (0-0))))/\(IntKind.wrap .i64 (a1-(IntKind.wrap .i64 (0-0))))*((56:Nat):Int)<=2 ^ 40) (iteP (0<=(0:Int)/\(0:Int)<=(0:Int)/\(0:Int)<=(((IntKind.wrap .i64 (a1-(IntKind.wrap .i64 (0-0)))).toNat:Nat):Int)) (iteP ((0+(0:Int).toNat)=0/\((0:Int).toNat-(0:Int).toNat)<=(List.replicate (IntKind.wrap .i64 (a1-(IntKind.wrap .i64 (0-0)))).toNat (⟨0,(⟨0,0,0,0,0,0⟩:Op)⟩:rj)).length) (some (((List.replicate (IntKind.wrap .i64 (a1-(IntKind.wrap .i64 (0-0)))).toNat (⟨0,(⟨0,0,0,0,0,0⟩:Op)⟩:rj)).take ((0:Int).toNat-(0:Int).toNat)),())) none) none) none) none) (some (([]:List rj),())))
def PA[dE] :=E0 193 Tryz.f193 [.nl,.ty (.i .i64)] Vb (λx=>HH x.2.1) [] [] (by kernel_rfl) λx=>by simp only[HH,tm,-eq_self];kernel_rfl
abbrev Md:LX:=⟨⟨[(0,.cl (.ro (.ls (.st .entry)))),M9,(9,.cl (.ro (.ls (.st .entry)))),Uo,VE],[],[],0,36⟩,[(.ext 0,⟨[(0,.cl (.ro (.ls (.st .entry)))),M9],[],[],0,36⟩)],[],[0,3,9,10,11],[0,3]⟩
def Gw(s: (List (List rj)×Int×List (List rj)×Int×Int×Unit)×Unit×Unit):Md.R:=
 br (decide (s.1.2.2.2.2.1<s.1.2.2.2.1)) (iteP (0<=s.1.2.2.2.2.1) ((s.1.2.2.1[s.1.2.2.2.2.1.toNat]?).bind λx6=>br (decide ((IntKind.wrap .i64 (s.1.2.1+(x6.length:Int)))<0)) (none) (some (.inl ((s.1.1,(IntKind.wrap .i64 (s.1.2.1+(x6.length:Int))),s.1.2.2.1,s.1.2.2.2.1,(IntKind.wrap .i64 (s.1.2.2.2.2.1+1)),()),(()),(()))))) none) (some (.inr ((s.1.1,s.1.2.1,()),(()),(()))))
def L9:=nw Gw
def Pk[dE] :=Ie Tryz.f132 [0] Md Gw [] [] (by kernel_rfl) λs=>by simp only[Gw,tm];kernel_rfl
abbrev LY:LX:=⟨⟨[Sx,(25,.cl (.ro (.ls (.st .entry)))),(26,.cl (.int .i64)),(27,.cl (.int .i64))],[],Yg,0,36⟩,[(.ext 2,⟨[Sx],[],Yg,0,36⟩)],[],[6,25,26,27],[6]⟩
def Gj(s: (Unit×List (List rj)×Int×Int×Unit)×Unit×List rj×Unit):LY.R:=
 br (decide (s.1.2.2.2.1<s.1.2.2.1)) (iteP (0<=s.1.2.2.2.1) ((s.1.2.1[s.1.2.2.2.1.toNat]?).bind λx13=>iteP ((s.2.2.1++x13).length*56<=2 ^ 40) (some (.inl (((),s.1.2.1,s.1.2.2.1,(IntKind.wrap .i64 (s.1.2.2.2.1+1)),()),(()),(s.2.2.1++x13),()))) none) none) (some (.inr (((),()),(()),s.2.2)))
def LI:=nw Gj
def OV[dE] :=Ie Tryz.f132 [1] LY Gj [] [] (by kernel_rfl) λs=>by simp only[Gj,tm];kernel_rfl
def Hb(a0:List (List rj)):Option ((List rj)×Unit):=
 (L9 ((a0,0,a0,(a0.length:Int),0,()),(()),(()))).bind λe7=>(HH e7.1.2.1).bind λy8=>(LI (((),e7.1.1,(e7.1.1.length:Int),0,()),(()),y8.1,())).bind λe14=>some e14.2.2
def Qm[dE] :=E0 132 Tryz.f132 [.ty (.ls (.ls (.st .entry)))] Vb (λx=>Hb x.1) [PA] [Pk,OV] (by kernel_rfl) λx=>by simp only[Hb,tm];kernel_rfl
abbrev MW:LX:=⟨⟨[Mb,Xc,Pc,(13,.cl (.int .i64))],[],[],0,26⟩,[(.ret,⟨[Om],[],[],0,26⟩),(.ext 0,⟨[O9],[],[],0,26⟩)],[],[0,1,12,13],[4]⟩
def GQ(s:Y3×Unit×Unit):MW.R:=
 br (decide (s.1.2.2.2.1<s.1.2.2.1)) (iteP (0<=s.1.2.2.2.1) ((s.1.1[s.1.2.2.2.1.toNat]?).bind λx5=>iteP (0<=s.1.2.2.2.1) ((s.1.2.1[s.1.2.2.2.1.toNat]?).bind λx6=>br (!((x5.epoch==x6.epoch)&&((x5.op.client==x6.op.client)&&((x5.op.seq==x6.op.seq)&&((x5.op.kind==x6.op.kind)&&((x5.op.object==x6.op.object)&&((x5.op.old==x6.op.old)&&((x5.op.value==x6.op.value)&&true)))))))) (some (.inr (.inl ((false,()),(()),(()))))) (some (.inl ((s.1.1,s.1.2.1,s.1.2.2.1,(IntKind.wrap .i64 (s.1.2.2.2.1+1)),()),(()),(()))))) none) none) (some (.inr (.inr (((),()),(()),(())))))
def J8:=nw GQ
def PQ[dE] :=Ie Tryz.f93 [0] MW GQ [] [] (by kernel_rfl) λs=>by simp only[GQ,tm];kernel_rfl
def HG(a0:List rj)(a1:List rj):Option (Bool×Unit):=
 br (!((a0.length:Int)==(a1.length:Int))) (some (false,())) ((J8 ((a0,a1,(a0.length:Int),0,()),(()),(()))).bind λe7=>Sum.elim (λe7_0=>some e7_0.1) (λ_=>some (true,())) e7)
def Q4[dE] :=E0 93 Tryz.f93 VB [.b] (λx=>HG x.1 x.2.1) [] [PQ] (by kernel_rfl) λx=>by simp only[HG,tm];kernel_rfl
def Lo(a0:List rj)(a1:Int)(a2:List rj):Option ((List rj)×Bool×Unit):=
 (Jy a0).bind λy1=>br (!y1.1) (some (([]:List rj),false,())) ((Lq a1 a2).bind λy2=>br (!y2.1) (some (([]:List rj),false,())) (br (decide (a1>(a0.length:Int))) (some (([]:List rj),false,())) (iteP (0<=(if (IntKind.wrap .i64 ((a0.length:Int)-a1))< (a2.length:Int) then (IntKind.wrap .i64 ((a0.length:Int)-a1)) else (a2.length:Int))/\(if (IntKind.wrap .i64 ((a0.length:Int)-a1))< (a2.length:Int) then (IntKind.wrap .i64 ((a0.length:Int)-a1)) else (a2.length:Int))<=(a2.length:Int)/\(a2.length:Int)<=(a2.length:Int)) ((Hb ([a0,((a2.drop (if (IntKind.wrap .i64 ((a0.length:Int)-a1))< (a2.length:Int) then (IntKind.wrap .i64 ((a0.length:Int)-a1)) else (a2.length:Int)).toNat).take ((a2.length:Int).toNat-(if (IntKind.wrap .i64 ((a0.length:Int)-a1))< (a2.length:Int) then (IntKind.wrap .i64 ((a0.length:Int)-a1)) else (a2.length:Int)).toNat))]:List (List rj))).bind λy3=>iteP (0<=a1/\a1<=(IntKind.wrap .i64 (a1+(if (IntKind.wrap .i64 ((a0.length:Int)-a1))< (a2.length:Int) then (IntKind.wrap .i64 ((a0.length:Int)-a1)) else (a2.length:Int))))/\(IntKind.wrap .i64 (a1+(if (IntKind.wrap .i64 ((a0.length:Int)-a1))< (a2.length:Int) then (IntKind.wrap .i64 ((a0.length:Int)-a1)) else (a2.length:Int))))<=(a0.length:Int)) (iteP (0<=(0:Int)/\(0:Int)<=(if (IntKind.wrap .i64 ((a0.length:Int)-a1))< (a2.length:Int) then (IntKind.wrap .i64 ((a0.length:Int)-a1)) else (a2.length:Int))/\(if (IntKind.wrap .i64 ((a0.length:Int)-a1))< (a2.length:Int) then (IntKind.wrap .i64 ((a0.length:Int)-a1)) else (a2.length:Int))<=(a2.length:Int)) ((HG ((a0.drop a1.toNat).take ((IntKind.wrap .i64 (a1+(if (IntKind.wrap .i64 ((a0.length:Int)-a1))< (a2.length:Int) then (IntKind.wrap .i64 ((a0.length:Int)-a1)) else (a2.length:Int)))).toNat-a1.toNat)) ((a2.drop (0:Int).toNat).take ((if (IntKind.wrap .i64 ((a0.length:Int)-a1))< (a2.length:Int) then (IntKind.wrap .i64 ((a0.length:Int)-a1)) else (a2.length:Int)).toNat-(0:Int).toNat))).bind λy4=>br (!y4.1) (some (([]:List rj),false,())) ((Jy y3.1).bind λy5=>br (!y5.1) (some (([]:List rj),false,())) (some (y3.1,true,())))) none) none) none)))
def US[dE] :=E0 66 Tryz.f66 YL Wn (λx=>Lo x.1 x.2.1 x.2.2.1) [ST,TQ,Qm,Q4] [] (by kernel_rfl) λx=>by simp only[Lo,tm];kernel_rfl
abbrev KR:LX:=⟨⟨[KI,Oc,LL,VH,Oq,(12,.cl (.ptr 2 0)),Xe,Xf,Xg,(52,.cl (.ro (.st .server))),(53,.cl (.int .i64)),(54,.cl (.int .i64))],[Jr,Xm,Xl],Wo,0,99⟩,[(.ext 2,⟨[KI,Oc,LL,VH,Oq,Xe,Xf,Xg],[Jr,Xm],Wo,0,99⟩)],[],[1,2,6,8,9,12,33,34,35,52,53,54],[1,2,6,8,9,33,34,35]⟩
def G5(s: (Int×Unit×Unit×Unit×Bool×Unit×Unit×Int×Int×List qj×Int×Int×Unit)×(MO×PF×Xi×Unit)×List rj×List Int×List Int×Unit):KR.R:=
 br (decide (s.1.2.2.2.2.2.2.2.2.2.2.2.1<s.1.2.2.2.2.2.2.2.2.2.2.1)) (iteP (0<=s.1.2.2.2.2.2.2.2.2.2.2.2.1) ((s.1.2.2.2.2.2.2.2.2.2.1[s.1.2.2.2.2.2.2.2.2.2.2.2.1.toNat]?).bind λx59=>let j65 (p63:List rj) (p64:Bool):KR.R:=some (.inl ((s.1.1,(),(),(),p64,(),(),s.1.2.2.2.2.2.2.2.1,s.1.2.2.2.2.2.2.2.2.1,s.1.2.2.2.2.2.2.2.2.2.1,s.1.2.2.2.2.2.2.2.2.2.2.1,(IntKind.wrap .i64 (s.1.2.2.2.2.2.2.2.2.2.2.2.1+1)),()),s.2.1,p63,s.2.2.2));br (!x59.up) (j65 s.2.2.1 s.1.2.2.2.2.1) ((Hm s.2.1.1.2.2.1 s.1.1 s.1.2.2.2.2.2.2.2.2.2.2.2.1).bind λy60=>br (!y60.1) (j65 s.2.2.1 s.1.2.2.2.2.1) ((G7 x59 s.1.2.2.2.2.2.2.2.2.2.2.2.1).bind λy61=>(Lo y61.1 s.2.1.2.2.1.2.2.2.2.2.2.2.2.1 s.2.1.2.2.1.2.2.2.2.2.2.2.2.2.1).bind λy62=>br y62.2.1 (br (!s.1.2.2.2.2.1) (j65 y62.1 true) (br (decide ((y62.1.length:Int)>(s.2.2.1.length:Int))) (j65 y62.1 true) (j65 s.2.2.1 s.1.2.2.2.2.1))) (j65 s.2.2.1 s.1.2.2.2.2.1)))) none) (some (.inr ((s.1.1,(),(),(),s.1.2.2.2.2.1,(),s.1.2.2.2.2.2.2.2.1,s.1.2.2.2.2.2.2.2.2.1,()),(s.2.1.1,s.2.1.2.1,()),s.2.2)))
def Ni:=nw G5
def Qu[dE] :=Ie Tryz.f22 [0,0] KR G5 [QR,Qe,US] [] (by kernel_rfl) λs=>by simp only[G5,tm];kernel_rfl
abbrev NQ:LX:=⟨⟨[KI,Oc,LL,VH,Oq,Xe,Xf,Xg],[Jr,Xm],Wo,0,99⟩,[(.ext 0,⟨[VH,Oq],[],Yg,0,99⟩)],[],[1,2,6,8,9,33,34,35],[8,9]⟩
def Hv(s: (Int×Unit×Unit×Unit×Bool×Unit×Int×Int×Unit)×(MO×PF×Unit)×List rj×List Int×List Int×Unit):NQ.R:=
 br (decide (s.1.2.2.2.2.2.2.2.1<s.1.2.2.2.2.2.2.1)) (iteP (0<=s.1.2.2.2.2.2.2.2.1/\s.1.2.2.2.2.2.2.2.1< (s.2.2.2.1.length:Int)) ((s.2.2.2.1[s.1.2.2.2.2.2.2.2.1.toNat]?).bind λx22=>(JW (⟨s.2.1.1.1,s.2.1.1.2.1,s.2.1.1.2.2.1,(⟨s.2.1.1.2.2.2.1,s.2.1.1.2.2.2.2.1⟩:jY),s.2.1.1.2.2.2.2.2.1,(⟨s.2.1.1.2.2.2.2.2.2.1,s.2.1.1.2.2.2.2.2.2.2.1,s.2.1.1.2.2.2.2.2.2.2.2.1⟩:uK),s.2.1.1.2.2.2.2.2.2.2.2.2.1⟩:qg) s.1.1 x22 s.2.1.2.1.1).bind λy23=>br (!y23.1) (some (.inl ((s.1.1,(),(),(),s.1.2.2.2.2.1,(),s.1.2.2.2.2.2.2.1,(IntKind.wrap .i64 (s.1.2.2.2.2.2.2.2.1+1)),()),s.2))) (iteP (0<=x22) ((s.2.1.1.2.1[x22.toNat]?).bind λx24=>(Ni ((s.1.1,(),(),(),s.1.2.2.2.2.1,(),(),s.1.2.2.2.2.2.2.1,s.1.2.2.2.2.2.2.2.1,s.2.1.1.2.1,(s.2.1.1.2.1.length:Int),0,()),(s.2.1.1,s.2.1.2.1,(x24.up,x24.intact,x24.version,x24.epoch,x24.config.epoch,x24.config.primary,x24.config.replicas,x24.config.witnesses,x24.first,x24.log,x24.commit,x24.learned,()),()),s.2.2)).bind λe66=>some (.inl ((e66.1.1,(),(),(),e66.1.2.2.2.2.1,(),e66.1.2.2.2.2.2.2.1,(IntKind.wrap .i64 (e66.1.2.2.2.2.2.2.2.1+1)),()),e66.2))) none)) none) (some (.inr (((),s.1.2.2.2.2.1,()),(()),s.2.2.1,())))
def NF:=nw Hv
def Rr[dE] :=Ie Tryz.f22 [0] NQ Hv [UT] [Qu] (by kernel_rfl) λs=>by simp only[Hv,tm];kernel_rfl
def Gm(a0:qg)(a1:Int):Option ((List rj)×Bool×Unit):=
 (EY a0.master).bind λy1=>br (!y1.2.1) (some (([]:List rj),false,())) ((EU a0 a1).bind λy2=>br (!y2.1) (some (([]:List rj),false,())) ((NF ((a1,(),(),(),false,(),(y1.1.witnesses.length:Int),0,()),((a0.now,a0.servers,a0.sides,a0.master.configs,a0.master.activated,a0.masterUp,a0.lease.epoch,a0.lease.holder,a0.lease.ends,a0.places,()),(y1.1.epoch,y1.1.primary,(),(),()),()),([]:List rj),y1.1.witnesses,y1.1.replicas,())).bind λe86=>br (!e86.1.2.1) (some (([]:List rj),false,())) (some (e86.2.2.1,true,()))))
def SU[dE] :=E0 22 Tryz.f22 Mn Wn (λx=>Gm x.1 x.2.1) [Qd,RN] [Rr] (by kernel_rfl) λx=>by simp only[Gm,tm];kernel_rfl
abbrev MQ:LX:=⟨⟨[Mb,Xc,Na],[],[],0,30⟩,[(.ext 0,⟨[Na],[],[],0,30⟩)],[],[0,1,5],[5]⟩
def Gf(s:Y1×Unit×Unit):MQ.R:=
 br (decide (s.1.2.2.1< (s.1.1.length:Int))) (br (decide (s.1.2.2.1< (s.1.2.1.length:Int))) (iteP (0<=s.1.2.2.1) ((s.1.1[s.1.2.2.1.toNat]?).bind λx4=>iteP (0<=s.1.2.2.1) ((s.1.2.1[s.1.2.2.1.toNat]?).bind λx5=>br ((x4.epoch==x5.epoch)&&((x4.op.client==x5.op.client)&&((x4.op.seq==x5.op.seq)&&((x4.op.kind==x5.op.kind)&&((x4.op.object==x5.op.object)&&((x4.op.old==x5.op.old)&&((x4.op.value==x5.op.value)&&true))))))) (some (.inl ((s.1.1,s.1.2.1,(IntKind.wrap .i64 (s.1.2.2.1+1)),()),(()),(())))) (some (.inr (s.1.2.2,(()),(()))))) none) none) (some (.inr (s.1.2.2,(()),(()))))) (some (.inr (s.1.2.2,(()),(()))))
def J5:=nw Gf
def PJ[dE] :=Ie Tryz.f59 [0] MQ Gf [] [] (by kernel_rfl) λs=>by simp only[Gf,tm];kernel_rfl
def Hz(a0:List rj)(a1:List rj):Option (Int×Unit):=
 (J5 ((a0,a1,0,()),(()),(()))).bind λe6=>some e6.1
def QO[dE] :=E0 59 Tryz.f59 VB KJ (λx=>Hz x.1 x.2.1) [] [PJ] (by kernel_rfl) λx=>by simp only[Hz,tm];kernel_rfl
def JV(a0:List rj)(a1:List rj):Option (Bool×Unit):=
 (Hz a0 a1).bind λy1=>some ((y1.1==(a0.length:Int)),())
def UR[dE] :=E0 17 Tryz.f17 VB [.b] (λx=>JV x.1 x.2.1) [QO] [] (by kernel_rfl) λx=>by simp only[JV,tm];kernel_rfl
abbrev MX:LX:=⟨⟨[VG,(9,.cl (.own 0 (.st .entry))),VE,Pc],[Ve],[.st .entry,.st .server,.i .i64,.st .config,.st .place],0,103⟩,[(.ret,⟨[OK],[],[],0,103⟩),(.ext 0,⟨[NL],[],[],0,103⟩)],[],[5,9,11,12],[2]⟩
def IE(s: (Unit×Unit×Int×Int×Unit)×(Mq×Unit)×List rj×List qj×List Int×List nE×List uN×Unit):MX.R:=
 br (decide (s.1.2.2.2.1<5)) ((Gm (⟨s.2.1.1.1,s.2.2.2.1,s.2.2.2.2.1,(⟨s.2.2.2.2.2.1,s.2.1.1.2.2.2.2.1⟩:jY),s.2.1.1.2.2.2.2.2.1,(⟨s.2.1.1.2.2.2.2.2.2.1,s.2.1.1.2.2.2.2.2.2.2.1,s.2.1.1.2.2.2.2.2.2.2.2.1⟩:uK),s.2.2.2.2.2.2.1⟩:qg) s.1.2.2.2.1).bind λy22=>(EP (⟨s.2.1.1.1,s.2.2.2.1,s.2.2.2.2.1,(⟨s.2.2.2.2.2.1,s.2.1.1.2.2.2.2.1⟩:jY),s.2.1.1.2.2.2.2.2.1,(⟨s.2.1.1.2.2.2.2.2.2.1,s.2.1.1.2.2.2.2.2.2.2.1,s.2.1.1.2.2.2.2.2.2.2.2.1⟩:uK),s.2.2.2.2.2.2.1⟩:qg) s.1.2.2.2.1).bind λy23=>br (!(y22.2.1==y23.2.1)) (some (.inr (.inl ((false,()),(()),(()))))) (br y22.2.1 (br (decide ((y22.1.length:Int)<s.1.2.2.1)) (some (.inr (.inl ((false,()),(()),(()))))) (iteP (0<=(0:Int)/\(0:Int)<=s.1.2.2.1/\s.1.2.2.1<=((s.2.2.1.length:Nat):Int)) (iteP ((0+(0:Int).toNat)+(s.1.2.2.1.toNat-(0:Int).toNat)<=s.2.2.1.length) ((JV ((s.2.2.1.drop (0+(0:Int).toNat)).take (s.1.2.2.1.toNat-(0:Int).toNat)) y22.1).bind λy24=>br (!y24.1) (some (.inr (.inl ((false,()),(()),(()))))) (some (.inl (((),(),s.1.2.2.1,(IntKind.wrap .i64 (s.1.2.2.2.1+1)),()),s.2)))) none) none)) (some (.inl (((),(),s.1.2.2.1,(IntKind.wrap .i64 (s.1.2.2.2.1+1)),()),s.2))))) (some (.inr (.inr (((),()),(()),(())))))
def PE:=nw IE
def PR[dE] :=Ie Tryz.f5 [0] MX IE [SU,O5,UR] [] (by kernel_rfl) λs=>by simp only[IE,tm];kernel_rfl
def Kl[dE](a0:Hd):Option (Bool×Unit):=
 (WJ a0).bind λy1=>br y1.1 (some (true,())) ((HZ a0).bind λy2=>(KB y2.1 y2.2.1).bind λy3=>br (!y3.1) (some (true,())) ((HK y2.1 y2.2.1).bind λy4=>(Ef y4.1.master).bind λy5=>(I9 y4.1).bind λy6=>br (!y5.2.1) (some (true,())) (br (!y6.2.1) (some (true,())) (iteP (0<=y5.1.primary/\y5.1.primary< (y4.1.servers.length:Int)) ((y4.1.servers[y5.1.primary.toNat]?).bind λx7=>iteP (0<=y5.1.primary/\y5.1.primary< (y4.1.servers.length:Int)) ((y4.1.servers[y5.1.primary.toNat]?).bind λx8=>br (!(x8.config.epoch==y5.1.epoch)) (some (true,())) ((PE (((),(),x7.commit,0,()),((y4.1.now,(),(),(),y4.1.master.activated,y4.1.masterUp,y4.1.lease.epoch,y4.1.lease.holder,y4.1.lease.ends,(),()),()),y6.1,y4.1.servers,y4.1.sides,y4.1.master.configs,y4.1.places,())).bind λe25=>Sum.elim (λe25_0=>some e25_0.1) (λ_=>some (true,())) e25)) none) none))))
def RX[dE] :=E0 5 Tryz.f5 [.ty (.h)] [.b] (λx=>Kl x.1) [aaa,Qf,T0,TX,Fx,UW] [PR] (by kernel_rfl) λx=>by simp only[Kl,tm];kernel_rfl
end
end Go.Proofs.YtkghndikalnipacGreat.En
