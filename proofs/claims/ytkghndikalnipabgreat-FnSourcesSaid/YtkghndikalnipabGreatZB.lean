/- Printed by a program: the walk. -/
import Derived.Test.YtkghndikalnipabGreatZTh
set_option linter.unusedSimpArgs false
set_option linter.unusedVariables false
namespace Go.Proofs.YtkghndikalnipabGreat.En
open Go
abbrev EI:=@Int.natCast_nonneg
abbrev EJ:=@Int.ofNat_lt
abbrev EK:=@Int.lt_irrefl
abbrev EL:=@List.length_set
abbrev EM:=@List.take_length
abbrev EN:=@List.take_add_one
abbrev EO:=@List.pairwise_iff_getElem
abbrev EP:=@List.filter_append
abbrev ES:=@Nat.le_succ_of_le
abbrev ET:=@Nat.sub_zero
abbrev EU:=@List.mem_filter
abbrev EV:=@Sum.elim_inr
abbrev EW:=@List.length_filter_le
abbrev EX:=@Sum.elim_inl
abbrev EY:=@List.pairwise_append
abbrev EZ:=@Int.toNat_zero
abbrev E0:=@List.pairwise_singleton
abbrev Fa:=@List.getElem_take
abbrev Fb:=@List.flatten_append
noncomputable section
abbrev Ke:List Ty:=[.i .i64]
abbrev LF:List Ty:=[.ls (.i .i64)]
abbrev NT:List Ty:=[.st .cluster,.i .i64]
abbrev SY:List Ty:=[.ls (.st .entry)]
abbrev WJ:List Ty:=[.st .config,.b]
abbrev WK:List Ty:=[.ls (.st .entry),.b]
abbrev XS:List Ty:=[.st .cluster]
abbrev YH:List Ty:=[.st .config]
abbrev ZR:List Ty:=[.st .masterLog]
abbrev aae:List Ty:=[.i .i64,.ls (.st .entry)]
abbrev Zq:List Ty:=[.st .cluster,.st .reply]
abbrev Zr:List Ty:=[.st .cluster,.st .config]
abbrev LD:List ju:=[.ty (.st .cluster),.ty (.i .i64)]
abbrev Rj:List ju:=[.ty (.ls (.st .entry))]
abbrev SW:List ju:=[.ty (.st .cluster)]
abbrev SX:List ju:=[.ty (.st .cluster),.ty (.i .i64),.ty (.i .i64)]
abbrev Ua:List ju:=[.ty (.i .i64)]
abbrev Ub:List ju:=[.ty (.ls (.i .i64)),.ty (.ls (.i .i64))]
abbrev UR:List ju:=[.ty (.st .server),.ty (.i .i64)]
abbrev VG:List ju:=[.ty (.ls (.i .i64))]
abbrev WG:List ju:=[.ty (.st .config)]
abbrev WH:List ju:=[.ty (.st .masterLog)]
abbrev Tj:List ju:=[.ty (.ls (.i .i64)),.ty (.i .i64)]
abbrev UQ:List ju:=[.ty (.st .server)]
abbrev V6:List ju:=[.ty (.st .op)]
abbrev V7:List ju:=[.ty (.ls (.st .entry)),.ty (.ls (.st .entry))]
abbrev Xy:List ju:=[.ty (.i .i64),.ty (.i .i64),.ty (.i .i64)]
abbrev Xz:List ju:=[.ty (.ls (.st .place))]
abbrev XA:List ju:=[.ty (.st .lease)]
abbrev XB:List ju:=[.ty (.st .masterLog),.ty (.i .i64)]
abbrev XC:List ju:=[.ty (.ls (.i .i64)),.ty (.i .i64),.ty (.i .i64)]
abbrev XD:List ju:=[.ty (.ls (.st .entry)),.ty (.i .i64)]
abbrev Y1:List ju:=[.ty (.st .config),.ty (.st .config)]
abbrev Y2:List ju:=[.ty (.st .config),.ty (.i .i64)]
abbrev Y3:List ju:=[.ty (.ls (.st .entry)),.ty (.i .i64),.ty (.i .i64)]
abbrev Y4:List ju:=[.ty (.st .machine),.ty (.i .i64)]
abbrev Y5:List ju:=[.ty (.st .cluster),.ty (.i .i64),.ty (.st .op)]
abbrev Y6:List ju:=[.ty (.i .i64),.ty (.ls (.st .entry))]
abbrev Y7:List ju:=[.ty (.ls (.st .entry)),.ty (.i .i64),.ty (.ls (.st .entry))]
abbrev Y8:List ju:=[.ty (.st .cluster),.ty (.i .i64),.ty (.i .i64),.ty (.i .i64)]
abbrev Y9:List ju:=[.ty (.st .cluster),.ty (.st .event)]
abbrev Za:List ju:=[.ty (.ls (.i .i64)),.fc 207]
abbrev Zb:List ju:=[.ty (.i .i64),.ty (.i .i64)]
abbrev Zc:List ju:=[.ty (.ls (.st .place)),.fc 209]
abbrev MN:Type:=(Int×List qQ×List Int×List om×Int×Int×Int×Int×Int×List vB×Unit)
abbrev ND:Type:=(Int×Unit×Unit×Unit×Int×Int×Int×Int×Int×Unit×Unit)
abbrev Qx:Type:=(Int×Int×Unit×Unit×Unit)
abbrev Uc:Type:=(Unit×Int×Unit)
abbrev WI:Type:=(Unit×Unit×Int×Unit)
abbrev XR:Type:=(Unit×Unit×Unit)
abbrev YG:Type:=(Unit×Unit×Unit×Int×Unit)
abbrev ZO:Type:=(List om×Int×Unit)
abbrev ZP:Type:=(List Int×Int×Int×Unit)
abbrev ZQ:Type:=(List Int×List Int×Unit×Int×Unit)
abbrev XN:Type:=(List Int×List nY×Unit)
abbrev XO:Type:=(Int×Unit×Unit×Unit×Bool×Int×Unit)
abbrev XP:Type:=(Bool×Bool×Int×Int×Int×Int×List Int×List Int×Int×List sf×Int×List sf×Unit)
abbrev XQ:Type:=(Unit×Unit×Unit×Unit×Unit×Unit×Int×Unit)
abbrev Zi:Type:=(List Int×Int×Unit)
abbrev Zj:Type:=(List sf×Int×Unit)
abbrev Zk:Type:=(List Int×List Int×Int×Unit)
abbrev Zl:Type:=(List Int×Unit×Int×Unit)
abbrev Zm:Type:=(Unit×Int×Unit×Int×Unit)
abbrev Zn:Type:=(List sf×List sf×Int×Unit)
abbrev Zo:Type:=(List Int×List Int×Int×Int×Unit)
abbrev Zp:Type:=(List sf×List sf×Int×Int×Unit)
abbrev J6:Nat×mu:=(1,.cl (.int .i64))
abbrev Kd:Nat×mu:=(1,.cl (.ptr 0 0))
abbrev K6:Nat×mu:=(5,.cl (.int .i64))
abbrev Nf:Nat×mu:=(2,.cl (.ptr 0 0))
abbrev Ng:Nat×mu:=(0,.cl (.ro (.i .i64)))
abbrev NB:Nat×mu:=(4,.cl (.int .i64))
abbrev NC:Nat×mu:=(3,.cl (.int .i64))
abbrev OS:Nat×mu:=(2,.cl (.dead))
abbrev OT:Nat×mu:=(0,.cl (.ro (.st .entry)))
abbrev OU:Nat×mu:=(6,.cl (.ptr 1 0))
abbrev Mf:Nat×mu:=(5,.cl (.own 0 (.i .i64)))
abbrev Mg:Nat×mu:=(7,.cl (.int .i64))
abbrev MC:Nat×mu:=(2,.cl (.bl))
abbrev MD:Nat×mu:=(6,.cl (.int .i64))
abbrev Og:Nat×mu:=(2,.cl (.ptr 1 0))
abbrev Oh:Nat×mu:=(4,.cl (.bl))
abbrev Oi:Nat×mu:=(4,.cl (.dead))
abbrev Oj:Nat×mu:=(0,.cl (.own 0 (.i .i64)))
abbrev O4:Nat×mu:=(1,.cl (.ro (.i .i64)))
abbrev O5:Nat×mu:=(4,.cl (.ptr 0 0))
abbrev O6:Nat×mu:=(9,.cl (.bl))
abbrev P8:Nat×mu:=(2,.cl (.int .i64))
abbrev P9:Nat×mu:=(12,.cl (.int .i64))
abbrev Qa:Nat×mu:=(8,.cl (.int .i64))
abbrev QW:Nat×mu:=(4,.cl (.ptr 2 0))
abbrev QX:Nat×mu:=(5,.cl (.ptr 3 0))
abbrev R2:Nat×mu:=(0,.cl (.pt 0 3))
abbrev R3:Nat×mu:=(0,.cl (.ro (.st .place)))
abbrev R4:Nat×mu:=(3,.cl (.ptr 1 0))
abbrev R5:Nat×mu:=(3,.cl (.ptr 0 0))
abbrev R6:Nat×mu:=(7,.cl (.own 0 (.st .entry)))
abbrev R7:Nat×mu:=(9,.cl (.own 1 (.i .i64)))
abbrev Tl:Nat×mu:=(4,.cl (.ptr 1 0))
abbrev Tm:Nat×mu:=(3,.cl (.own 0 (.i .i64)))
abbrev Tn:Nat×mu:=(6,.cl (.own 0 (.st .entry)))
abbrev US:Nat×mu:=(8,.cl (.bl))
abbrev UT:Nat×mu:=(7,.cl (.bl))
abbrev UU:Nat×mu:=(10,.cl (.int .i64))
abbrev V8:Nat×mu:=(8,.cl (.own 0 (.i .i64)))
abbrev V9:Nat×mu:=(11,.cl (.int .i64))
abbrev Wa:Nat×mu:=(3,.cl (.str))
abbrev Wb:Nat×mu:=(3,.cl (.own 1 (.i .i64)))
abbrev Wc:Nat×mu:=(3,.cl (.own 1 (.st .entry)))
abbrev Wd:Nat×mu:=(8,.cl (.own 0 (.st .entry)))
abbrev XE:Nat×mu:=(3,.cl (.ptr 2 0))
abbrev XF:Nat×mu:=(7,.cl (.ptr 3 0))
abbrev XG:Nat×mu:=(7,.cl (.own 0 (.i .i64)))
abbrev XH:Nat×mu:=(9,.cl (.own 0 (.i .i64)))
abbrev XI:Nat×mu:=(1,.cl (.ro (.st .entry)))
abbrev XJ:Nat×mu:=(8,.cl (.ptr 1 0))
abbrev XK:Nat×mu:=(33,.cl (.own 1 (.i .i64)))
abbrev XL:Nat×mu:=(34,.cl (.int .i64))
abbrev XM:Nat×mu:=(35,.cl (.int .i64))
abbrev Zd:Nat×mu:=(3,.cl (.own 1 (.st .place)))
abbrev Ze:Nat×mu:=(5,.cl (.own 1 (.st .event)))
abbrev Zf:Nat×mu:=(11,.cl (.own 1 (.i .i64)))
abbrev Zg:Nat×mu:=(10,.cl (.own 0 (.i .i64)))
abbrev Zh:Nat×mu:=(7,.cl (.own 0 (.st .reply)))
abbrev Iw:List Ty:=[.i .i64]
abbrev VL:List Ty:=[.st .entry,.i .i64,.st .server,.i .i64,.st .config,.st .place,.i .i64,.i .i64]
abbrev WN:List Ty:=[.st .entry,.i .i64,.i .i64]
abbrev XY:List Ty:=[.st .server,.i .i64,.st .config,.st .place]
abbrev YJ:List Ty:=[.i .i64,.st .session]
abbrev YK:List Ty:=[.i .i64,.st .server,.i .i64,.st .config,.st .place]
abbrev YL:List Ty:=[.i .i64,.i .i64]
abbrev YM:List Ty:=[.st .entry]
abbrev YN:List Ty:=[.st .cur,.i .i64]
abbrev YO:List Ty:=[.st .cur,.st .entry]
abbrev XX:List Ty:=[.i .i64,.i .i64,.i .i64]
abbrev Zz:List Ty:=[.st .server,.i .i64,.st .place]
abbrev ZA:List Ty:=[.i .i64,.i .i64,.i .i64,.i .i64]
abbrev ZB:List Ty:=[.st .reply,.st .server,.i .i64,.st .config,.st .place]
abbrev JG:List Sh:=[.int .i64,.ro (.st .server),.ro (.i .i64),.ro (.st .config),.int .i64,.int .i64,.int .i64,.int .i64,.int .i64,.ro (.st .place)]
abbrev Nh:List Sh:=[.int .i64,.em,.em,.em,.int .i64,.int .i64,.int .i64,.int .i64,.int .i64,.em]
abbrev Ud:List Sh:=[.int .i64,.own 2 (.st .server),.own 3 (.i .i64),.own 4 (.st .config),.int .i64,.int .i64,.int .i64,.int .i64,.int .i64,.own 5 (.st .place)]
abbrev VH:List Sh:=[.ro (.st .config),.int .i64]
abbrev VI:List Sh:=[.ro (.i .i64),.ro (.st .session)]
abbrev VJ:List Sh:=[.int .i64,.own 0 (.st .server),.own 1 (.i .i64),.own 2 (.st .config),.int .i64,.int .i64,.int .i64,.int .i64,.int .i64,.own 3 (.st .place)]
abbrev VK:List Sh:=[.int .i64,.int .i64,.own 6 (.i .i64),.own 7 (.i .i64)]
abbrev WL:List Sh:=[.int .i64,.own 1 (.st .server),.own 2 (.i .i64),.own 3 (.st .config),.int .i64,.int .i64,.int .i64,.int .i64,.int .i64,.own 4 (.st .place)]
abbrev WM:List Sh:=[.int .i64,.int .i64,.own 1 (.i .i64),.own 2 (.i .i64)]
abbrev YI:List Sh:=[.em,.int .i64]
abbrev We:List Sh:=[.bl,.int .i64]
abbrev Wf:List Sh:=[.own 0 (.i .i64),.own 1 (.st .session)]
abbrev XT:List Sh:=[.int .i64,.int .i64,.bl,.int .i64]
abbrev XU:List Sh:=[.bl,.bl,.int .i64,.int .i64,.int .i64,.int .i64,.ro (.i .i64),.ro (.i .i64),.int .i64,.ro (.st .entry),.int .i64,.ro (.st .entry)]
abbrev XV:List Sh:=[.int .i64,.int .i64,.own 0 (.i .i64),.own 1 (.i .i64)]
abbrev XW:List Sh:=[.int .i64,.int .i64,.own 2 (.i .i64),.own 1 (.i .i64)]
abbrev Zs:List Sh:=[.int .i64,.own 0 (.st .server),.own 1 (.i .i64),.em,.int .i64,.int .i64,.int .i64,.int .i64,.int .i64,.own 2 (.st .place)]
abbrev Zt:List Sh:=[.own 0 (.st .config),.int .i64]
abbrev Zu:List Sh:=[.int .i64,.own 0 (.st .server),.ro (.i .i64),.ro (.st .config),.int .i64,.int .i64,.int .i64,.int .i64,.int .i64,.ro (.st .place)]
abbrev Zv:List Sh:=[.int .i64,.int .i64,.int .i64,.int .i64,.int .i64,.int .i64]
abbrev Zw:List Sh:=[.int .i64,.int .i64,.em,.em]
abbrev Zx:List Sh:=[.int .i64,.int .i64,.own 2 (.i .i64),.own 3 (.i .i64)]
abbrev Zy:List Sh:=[.own 1 (.st .config),.int .i64]
def sb0:ByteArray:=⟨⟨[0,1,2,2,3,3,3,3,4,4,4,4,4,4,4,4,5,5,5,5,5,5,5,5,5,5,5,5,5,5,5,5,6,6,6,6,6,6,6,6,6,6,6,6,6,6,6,6,6,6,6,6,6,6,6,6,6,6,6,6,6,6,6,6,7,7,7,7,7,7,7,7,7,7,7,7,7,7,7,7,7,7,7,7,7,7,7,7,7,7,7,7,7,7,7,7,7,7,7,7,7,7,7,7,7,7,7,7,7,7,7,7,7,7,7,7,7,7,7,7,7,7,7,7,7,7,7,7,8,8,8,8,8,8,8,8,8,8,8,8,8,8,8,8,8,8,8,8,8,8,8,8,8,8,8,8,8,8,8,8,8,8,8,8,8,8,8,8,8,8,8,8,8,8,8,8,8,8,8,8,8,8,8,8,8,8,8,8,8,8,8,8,8,8,8,8,8,8,8,8,8,8,8,8,8,8,8,8,8,8,8,8,8,8,8,8,8,8,8,8,8,8,8,8,8,8,8,8,8,8,8,8,8,8,8,8,8,8,8,8,8,8,8,8,8,8,8,8,8,8,8,8,8,8,8,8]⟩⟩
theorem J7:Tryz.prog.follows .mixedOrders=true:=by kernel_rfl
abbrev H3[dL] :=@EH _ _ EG J7 _
abbrev Fz[dL] :=@Eu _ _ EG J7 _
abbrev coM[dL] :=@EB _ _ EG J7 _
abbrev coI[dL] :=@EA _ _ EG J7 _
abbrev coC[dL] :=@Ew _ _ EG J7 _
abbrev Rv[dL] :=@ED _ _ EG J7 _
def Xc(a0:Hd):Option (Bool×Unit):=some (decide (1048576< (a0.n:Int)),())
section
open Go.RowKit
theorem WY(x:Hd)(w:World):Calls Tryz.prog 7 #[.slice x.a x.n x.c] w λe w'=>e= .returned (.bool (decide (1048576< (x.n:Int))))/\Below w.heap.size w w':=by
 have mixed:Tryz.prog.follows .mixedOrders=true:=J7
 go_enter Tryz.func7,Tryz.ntmps7
 go_wp2
 go_ret
 exact⟨rfl,Below.refl _ _⟩
end
def aaa[dL] :=Ey (P:=Tryz.prog) 7 (by kernel_rfl) (CW Tryz.func7 (by kernel_rfl) rfl) [.ty .h] [.b] rfl rfl (λx=>Xc x.1) λx y h w=>by obtain rfl:=Option.some.inj h;exact WY x.1 w
def Tx[dL](a0:Hd):Option (List qO×Unit):=(D7 a0).map λc=>([c],())
section
open Go.RowKit
set_option maxHeartbeats 4000000 in
set_option maxRecDepth 100000 in
theorem U4[dL](x:Hd)(c:qO)(hx:D7 x=some c)(w:World)(hB: ∀a v,dL.w.cell? a=some v->w.cell? a=some v):
  Calls Tryz.prog 56 #[.slice x.a x.n x.c] w λr w'=> ∃b cs e,r= .returned (.pointer (some ⟨b,0,none⟩))/\Below w.heap.size w w'/\w.heap.size<=b/\w'.heap[b]? =some (.cells cs e (0,0))/\cs.size=3/\jW cs 0 c:=by
 have mixed:Tryz.prog.follows .mixedOrders=true:=J7;obtain⟨l,hl,rfl⟩:=aj.1 hx;obtain⟨hlen,hg⟩:=B4 hl
 have hg2: ∀ (k:Nat) m,l[k]? =some m-> ∃ad,x.a=some ad/\w.cell? (ad.add k)=some (.int .u8 m):=λk m hk=>by obtain⟨ad,h1,h2⟩:=hg k m hk;exact⟨ad,h1,hB _ _ h2⟩
 clear hg hB hl hx;obtain⟨a,n,cp⟩:=x;simp only at hlen hg2 ⊢;obtain⟨h0,hh0⟩: ∃h0,h0=wrap64 (10101+(n:Int)):=⟨_,rfl⟩
 rw[<-hh0];obtain⟨hf,hhf⟩: ∃hf,hf=(l.take 4000).foldl Ea h0:=⟨_,rfl⟩
 rw[<-hhf]
 go_enter Tryz.func56,Tryz.ntmps56
 go_wp2
 rw[<-hh0]
 go_loop [3,4] (λh i=> ∃k:Nat,k<=n/\k<=4000/\i= .int .i64 k/\h= .int .i64 ((l.take k).foldl Ea h0)) (λ_ i=>n-(intOf i).toNat)
 case atStart=>exact⟨0,bH _,bH _,rfl,by rw[dE,List.foldl_nil]⟩
 case round=>
  obtain⟨k,hk,hk4,rfl,rfl⟩:=hrel;clear hh0;by_cases h1:k<n
  ·by_cases h2:k<4000
   ·have hgk:l[k]? =some l[k] :=an (by omega);obtain⟨ad,rfl,hc⟩:=hg2 k _ hgk
    have hnext: (l.take (k+1)).foldl Ea h0=Ea ((l.take k).foldl Ea h0) l[k] :=by rw[EN,hgk,List.foldl_append,Option.toList_some,List.foldl_cons,List.foldl_nil]
    generalize l[k] =m at hc hnext hgk;clear hg2
    go_wp2
    refine⟨⟨k+1,h1,h2,by rw[Int.natCast_succ],by rw[hnext];rfl⟩,?_⟩;simp only[intOf];omega
   ·have hk0:l.take 4000=l.take k:=by rw[show k=4000 by omega]
    clear hg2
    go_wp2
    go_ret
    rw[hk0] at hhf;subst hhf;exact⟨_,rfl,(Below.refl _ w).alloc (az _) _,az _,_,⟨_,iP w _⟩,rfl,rfl,rfl,rfl⟩
  ·have hk0:l.take 4000=l.take k:=by rw[bS (by omega),bS (by omega)]
   clear hg2
   go_wp2
   go_ret
   rw[hk0] at hhf;subst hhf;exact⟨_,rfl,(Below.refl _ w).alloc (az _) _,az _,_,⟨_,iP w _⟩,rfl,rfl,rfl,rfl⟩
end
def Yx[dL] :=Em (P:=Tryz.prog) 56 (by kernel_rfl) (CW Tryz.func56 (by kernel_rfl) rfl) D7 U4
def MZ[dL](a0:List qO):Option (List qO×Int×Unit):=D6 DH a0
section
open Go.RowKit
set_option maxHeartbeats 4000000 in
set_option maxRecDepth 100000 in
theorem Um[dL](c:qO)(y:qO×Int)(hy:DH c=some y)(w:World)(b O:Nat)(cs:Array Value)(e:TypeId)(hB: ∀a v,dL.w.cell? a=some v->w.cell? a=some v/\a.block≠b)(hb:w.heap[b]? =some (.cells cs e (0,0)))(hc:jW cs O c):
   Calls Tryz.prog 170 #[.pointer (some ⟨b,O,none⟩)] w λr w'=>r= .returned (.int .i64 y.2)/\w'.os=w.os/\w'.tape=w.tape/\w'.output=w.output/\w'.heap.size=w.heap.size/\(∀k,k≠b->w'.heap[k]? =w.heap[k]?)/\ ∃cs',w'.heap[b]? =some (.cells cs' e (0,0))/\cs'.size=cs.size/\jW cs' O y.1/\ ∀k,(k<O\/O+3<=k)->cs'[k]? =cs[k]? :=by
 have mixed:Tryz.prog.follows .mixedOrders=true:=J7;have h0:w.cell? ⟨b,O,none⟩=some (.slice c.b.a c.b.n c.b.c):=by simp[World.cell?,hb,hc.1]
 have h1:w.cell? ⟨b,O+1,none⟩=some (.int .i64 c.i):=by simp[World.cell?,hb,hc.2.1]
 have h2:w.cell? ⟨b,O+2,none⟩=some (.int .i64 c.h):=by simp[World.cell?,hb,hc.2.2]
 have hf1:w.frozen? ⟨b,O+1,none⟩=false:=by simp[World.frozen?,hb]
 have hf2:w.frozen? ⟨b,O+2,none⟩=false:=by simp[World.frozen?,hb]
 unfold DH at hy;split at hy
 ·rename_i hi;split at hy
  ·rename_i hi0;obtain⟨m,hm,rfl⟩:=aj.1 hy;obtain⟨l,hl,hm⟩:=ah.1 hm;obtain⟨_,hg⟩:=B4 hl;obtain⟨ad,ha,hcell⟩:=hg _ _ hm;obtain⟨hc2,hne⟩:=hB _ _ hcell;rw[gV] at hne;clear hy hg hB hl;obtain⟨⟨a,n,cp⟩,i,h⟩:=c;simp only at hi hi0 ha h0 h1 h2 hc2 hm ⊢;subst ha;clear hm hcell;have hk: ∀v,(w.setCell ⟨b,O+2,none⟩ v).cell? (ad.add i.toNat)=some (.int .u8 m):=λv=>(World.cell?_setCell_other w _ _ v (λe=>hne (by rw[<-gV ad i.toNat,<-e]))).trans hc2
   go_enter Tryz.func170,Tryz.ntmps170
   go_wp2
   go_region
   go_wp2
   go_region
   go_wp2
   go_region
   go_wp2
   go_ret
   exact⟨rfl,rfl,rfl,rfl,DI hb hc (.inl rfl)⟩
  ·cases hy
 ·rename_i hi;obtain rfl:=Option.some.inj hy;obtain⟨⟨a,n,cp⟩,i,h⟩:=c;simp only at hi h0 h1 h2 ⊢;clear hy hB
  go_enter Tryz.func170,Tryz.ntmps170
  go_wp2
  go_region
  go_wp2
  go_region
  go_wp2
  go_ret
  exact⟨rfl,rfl,rfl,rfl,DI hb hc (.inr ⟨rfl,rfl⟩)⟩
end
def Xu[dL] :=Ep (P:=Tryz.prog) 170 (by kernel_rfl) (CW Tryz.func170 (by kernel_rfl) rfl) DH Um
def Fe[dL](a0:List qO)(a1:Int):Option ((List qO)×Int×Unit):=
 br (decide (a1<=0)) (some (a0,0,())) (br (decide (a1<=256)) ((MZ a0).bind λy1=>iteP (y1.1.length=a0.length) (iteP (a1=0) none (some (y1.1,(Int.tmod y1.2.1 a1),()))) none) ((MZ a0).bind λy2=>iteP (y2.1.length=a0.length) ((MZ y2.1).bind λy3=>iteP (y3.1.length=y2.1.length) ((MZ y3.1).bind λy4=>iteP (y4.1.length=y3.1.length) ((MZ y4.1).bind λy5=>iteP (y5.1.length=y4.1.length) (iteP (a1=0) none (some (y5.1,(Int.tmod (IntKind.wrap .i64 ((IntKind.wrap .i64 ((IntKind.wrap .i64 ((IntKind.wrap .i64 (y2.2.1*16777216))+(IntKind.wrap .i64 (y3.2.1*65536))))+(IntKind.wrap .i64 (y4.2.1*256))))+y5.2.1)) a1),()))) none) none) none) none))
def FV[dL] :=Rv 88 Tryz.f88 (.st .cur) Ua Ke (λl x=>Fe l x.1) [Xu] [] (by kernel_rfl) λl x=>by simp only[Fe,tm,-eq_self];kernel_rfl
abbrev Qf:LX:=⟨⟨[R2,Zd,NB],[],[.st .cur,.st .place],1,22⟩,[(.ext 0,⟨[Zd],[],[.st .cur,.st .place],1,22⟩)],[],[0,3,4],[3]⟩
def Lq[dL](s:WI×Unit×List qO×List vB×Unit):Qf.R:=
 br (decide (s.1.2.2.1<5)) ((Fe s.2.2.1 4).bind λy4=>iteP (y4.1.length=s.2.2.1.length) ((Fe y4.1 4).bind λy5=>iteP (y5.1.length=y4.1.length) ((Fe y5.1 4).bind λy6=>iteP (y6.1.length=y5.1.length) (iteP ((s.2.2.2.1++([(⟨y4.2.1,(IntKind.wrap .i64 (1+y5.2.1)),y6.2.1⟩:vB)]:List vB)).length*24<=2 ^ 40) (some (.inl (((),(),(IntKind.wrap .i64 (s.1.2.2.1+1)),()),(()),y6.1,(s.2.2.2.1++([(⟨y4.2.1,(IntKind.wrap .i64 (1+y5.2.1)),y6.2.1⟩:vB)]:List vB)),()))) none) none) none) none) (some (.inr (((),()),(()),s.2.2)))
def TZ[dL] :=md Lq
def Uj[dL] :=H3 Tryz.f218 [0] Qf Lq [FV] [] (by kernel_rfl) λs=>by simp only[Lq,tm,-eq_self];kernel_rfl
def Ks[dL](a0:List qO):Option ((List qO)×(List vB)×Unit):=
 (TZ (((),(),0,()),(()),a0,([]:List vB),())).bind λe7=>some e7.2.2
def RV[dL] :=Rv 218 Tryz.f218 (.st .cur) [] [.ls (.st .place)] (λl _=>Ks l) [] [Uj] (by kernel_rfl) λl x=>by simp only[Ks,tm];kernel_rfl
def Ff(a0:Int)(a1:Int)(a2:Int):Option (Bool×Unit):=
 br (decide (a0≥a1)) (some ((decide (a0<=a2)),())) (some (false,()))
def FE[dL] :=Fz 90 Tryz.f90 Xy [.b] (λx=>Ff x.1 x.2.1 x.2.2.1) [] [] (by kernel_rfl) λx=>by simp only[Ff,tm];kernel_rfl
abbrev O9:LX:=⟨⟨[R3,NC],[],[],0,38⟩,[(.ret,⟨[R3,MC],[],[],0,38⟩),(.ext 0,⟨[R3,OS],[],[],0,38⟩)],[],[0,3],[0,2]⟩
def HE(s: (List vB×Int×Unit)×Unit×Unit):O9.R:=
 br (decide (s.1.2.1< (s.1.1.length:Int))) (iteP (0<=s.1.2.1) ((s.1.1[s.1.2.1.toNat]?).bind λx3=>(Ff x3.rack 0 9).bind λy4=>br (!y4.1) (some (.inr (.inl ((s.1.1,false,()),(()),(()))))) (iteP (0<=s.1.2.1) ((s.1.1[s.1.2.1.toNat]?).bind λx5=>(Ff x5.capacity 0 9).bind λy6=>br (!y6.1) (some (.inr (.inl ((s.1.1,false,()),(()),(()))))) (iteP (0<=s.1.2.1) ((s.1.1[s.1.2.1.toNat]?).bind λx7=>(Ff x7.load 0 99).bind λy8=>br (!y8.1) (some (.inr (.inl ((s.1.1,false,()),(()),(()))))) (some (.inl ((s.1.1,(IntKind.wrap .i64 (s.1.2.1+1)),()),(()),(()))))) none)) none)) none) (some (.inr (.inr ((s.1.1,(),()),(()),(())))))
def ML:=md HE
def S7[dL] :=H3 Tryz.f160 [0] O9 HE [FE] [] (by kernel_rfl) λs=>by simp only[HE,tm];kernel_rfl
def FG(a0:List vB):Option (Bool×Unit):=
 (ML ((a0,0,()),(()),(()))).bind λe9=>Sum.elim (λe9_0=>some e9_0.1.2) (λe9_1=>some (((e9_1.1.1.length:Int)==5),())) e9
def K3[dL] :=Fz 160 Tryz.f160 Xz [.b] (λx=>FG x.1) [] [S7] (by kernel_rfl) λx=>by simp only[FG,tm];kernel_rfl
def JB(a0:Int):Option (qQ×Unit):=
 (Ff a0 1 2).bind λy1=>br (!y1.1) (some ((⟨true,true,1,0,(⟨0,0,([]:List Int),([]:List Int)⟩:om),0,([]:List sf),0,([]:List sf)⟩:qQ),())) (some ((⟨true,true,a0,0,(⟨0,0,([]:List Int),([]:List Int)⟩:om),0,([]:List sf),0,([]:List sf)⟩:qQ),()))
def QP[dL] :=Fz 236 Tryz.f236 Ua [.st .server] (λx=>JB x.1) [FE] [] (by kernel_rfl) λx=>by simp only[JB,tm];kernel_rfl
abbrev Ow:LX:=⟨⟨[Nf,R4,NB],[Nh,Zs],Zz,0,25⟩,[(.ext 0,⟨[Nf,R4],[Nh,Zs],Zz,0,25⟩)],[.b 1 1 (.st .server)],[2,3,4],[2,3]⟩
def JJ(s:WI×(ND×ND×Unit)×List qQ×List Int×List vB×Unit):Ow.R:=
 br (decide (s.1.2.2.1<5)) ((JB 1).bind λy34=>iteP ((s.2.2.1++([y34.1]:List qQ)).length*152<=2 ^ 40) (some (.inl (((),(),(IntKind.wrap .i64 (s.1.2.2.1+1)),()),s.2.1,(s.2.2.1++([y34.1]:List qQ)),s.2.2.2))) none) (some (.inr (((),(),()),s.2)))
def R0:=md JJ
def Sq[dL] :=H3 Tryz.f217 [0] Ow JJ [QP] [] (by kernel_rfl) λs=>by simp only[JJ,tm];kernel_rfl
def JU(a0:List vB):Option (qN×Unit):=
 (FG a0).bind λy1=>br (!y1.1) (some ((⟨0,([]:List qQ),([]:List Int),(⟨([]:List om),0⟩:kB),0,(⟨0,0,0⟩:vz),([]:List vB)⟩:qN),())) (iteP (0<=(5:Int)/\(5:Int)=5/\5*((8:Nat):Int)<=2 ^ 40) (iteP ((([]:List vB)++a0).length*24<=2 ^ 40) ((R0 (((),(),0,()),((0,(),(),(),0,0,0,0,0,(),()),(0,(),(),(),0,3,0,0,0,(),()),()),([]:List qQ),(List.replicate (5:Int).toNat (0:Int)),(([]:List vB)++a0),())).bind λe35=>some ((⟨e35.2.1.2.1.1,e35.2.2.1,e35.2.2.2.1,(⟨([]:List om),e35.2.1.2.1.2.2.2.2.1⟩:kB),e35.2.1.2.1.2.2.2.2.2.1,(⟨e35.2.1.2.1.2.2.2.2.2.2.1,e35.2.1.2.1.2.2.2.2.2.2.2.1,e35.2.1.2.1.2.2.2.2.2.2.2.2.1⟩:vz),e35.2.2.2.2.1⟩:qN),())) none) none)
def TM[dL] :=Fz 217 Tryz.f217 Xz XS (λx=>JU x.1) [K3] [Sq] (by kernel_rfl) λx=>by simp only[JU,tm,-eq_self];kernel_rfl
def Gb[dL](a0:List qO)(a1:Int):Option ((List qO)×Bool×Unit):=
 (Fe a0 a1).bind λy1=>iteP (y1.1.length=a0.length) (some (y1.1,(y1.2.1==0),())) none
def IL[dL] :=Rv 84 Tryz.f84 (.st .cur) Ua [.b] (λl x=>Gb l x.1) [FV] [] (by kernel_rfl) λl x=>by simp only[Gb,tm,-eq_self];kernel_rfl
def Fk[dL](a0:List qO)(a1:List Int):Option ((List qO)×Int×Unit):=
 (Fe a0 (a1.length:Int)).bind λy1=>iteP (y1.1.length=a0.length) (iteP (0<=y1.2.1) ((a1[y1.2.1.toNat]?).bind λx2=>some (y1.1,x2,())) none) none
def F8[dL] :=Rv 86 Tryz.f86 (.st .cur) VG Ke (λl x=>Fk l x.1) [FV] [] (by kernel_rfl) λl x=>by simp only[Fk,tm,-eq_self];kernel_rfl
def MG[dL](a0:List qO):Option ((List qO)×Op×Unit):=
 (Fe a0 3).bind λy1=>iteP (y1.1.length=a0.length) ((Fe y1.1 5).bind λy2=>iteP (y2.1.length=y1.1.length) ((Fe y2.1 3).bind λy3=>iteP (y3.1.length=y2.1.length) ((Fe y3.1 10).bind λy4=>iteP (y4.1.length=y3.1.length) ((Gb y4.1 3).bind λy5=>iteP (y5.1.length=y4.1.length) (br y5.2.1 ((Fk y5.1 ([0,0,1,5,9]:List Int)).bind λy6=>iteP (y6.1.length=y5.1.length) (some (y6.1,(⟨y1.2.1,(IntKind.wrap .i64 (1+y2.2.1)),2,y3.2.1,y6.2.1,y4.2.1⟩:Op),())) none) (some (y5.1,(⟨y1.2.1,(IntKind.wrap .i64 (1+y2.2.1)),1,y3.2.1,0,y4.2.1⟩:Op),()))) none) none) none) none) none
def TT[dL] :=Rv 169 Tryz.f169 (.st .cur) [] [.st .op] (λl _=>MG l) [FV,IL,F8] [] (by kernel_rfl) λl x=>by simp only[MG,tm,-eq_self];kernel_rfl
def L0[dL](a0:List qO):Option ((List qO)×xx×Unit):=
 (Fe a0 5).bind λy1=>iteP (y1.1.length=a0.length) ((Fe y1.1 24).bind λy2=>iteP (y2.1.length=y1.1.length) (br (y2.2.1==0) ((Fe y2.1 20).bind λy3=>iteP (y3.1.length=y2.1.length) (some (y3.1,(⟨3,y1.2.1,0,(IntKind.wrap .i64 (1+y3.2.1)),(⟨0,0,0,0,0,0⟩:Op)⟩:xx),())) none) (br (y2.2.1==1) ((Fe y2.1 2).bind λy4=>iteP (y4.1.length=y2.1.length) ((Fe y4.1 3).bind λy5=>iteP (y5.1.length=y4.1.length) (some (y5.1,(⟨4,0,y4.2.1,(IntKind.wrap .i64 (1+y5.2.1)),(⟨0,0,0,0,0,0⟩:Op)⟩:xx),())) none) none) (br (y2.2.1==2) (some (y2.1,(⟨5,0,0,0,(⟨0,0,0,0,0,0⟩:Op)⟩:xx),())) (br (y2.2.1==3) (some (y2.1,(⟨6,y1.2.1,0,0,(⟨0,0,0,0,0,0⟩:Op)⟩:xx),())) (let j23 (p6:Bool):Option ((List qO)×xx×Unit):=br p6 (some (y2.1,(⟨7,y1.2.1,0,0,(⟨0,0,0,0,0,0⟩:Op)⟩:xx),())) (br (y2.2.1==6) ((Gb y2.1 3).bind λy7=>iteP (y7.1.length=y2.1.length) (br y7.2.1 (some (y7.1,(⟨8,y1.2.1,0,0,(⟨0,0,0,0,0,0⟩:Op)⟩:xx),())) ((MG y7.1).bind λy26=>iteP (y26.1.length=y7.1.length) (some (y26.1,(⟨1,y1.2.1,0,0,y26.2.1⟩:xx),())) none)) none) (br (y2.2.1==7) ((Fk y2.1 ([0,0,1]:List Int)).bind λy8=>iteP (y8.1.length=y2.1.length) (some (y8.1,(⟨9,y1.2.1,0,y8.2.1,(⟨0,0,0,0,0,0⟩:Op)⟩:xx),())) none) (br (y2.2.1==8) ((Fe y2.1 3).bind λy9=>iteP (y9.1.length=y2.1.length) (some (y9.1,(⟨10,0,0,(IntKind.wrap .i64 (1+y9.2.1)),(⟨0,0,0,0,0,0⟩:Op)⟩:xx),())) none) (let j22 (p10:Bool):Option ((List qO)×xx×Unit):=br p10 ((Fe y2.1 12).bind λy11=>iteP (y11.1.length=y2.1.length) (some (y11.1,(⟨11,0,0,y11.2.1,(⟨0,0,0,0,0,0⟩:Op)⟩:xx),())) none) (br (y2.2.1==11) ((Fe y2.1 5).bind λy12=>iteP (y12.1.length=y2.1.length) ((Fe y12.1 4).bind λy13=>iteP (y13.1.length=y12.1.length) (some (y13.1,(⟨12,y1.2.1,y12.2.1,(IntKind.wrap .i64 (1+y13.2.1)),(⟨0,0,0,0,0,0⟩:Op)⟩:xx),())) none) none) (br (y2.2.1==12) (some (y2.1,(⟨13,y1.2.1,0,0,(⟨0,0,0,0,0,0⟩:Op)⟩:xx),())) (br (y2.2.1==13) (some (y2.1,(⟨14,y1.2.1,0,0,(⟨0,0,0,0,0,0⟩:Op)⟩:xx),())) (br (y2.2.1==14) (some (y2.1,(⟨15,y1.2.1,0,0,(⟨0,0,0,0,0,0⟩:Op)⟩:xx),())) (let j21 (p14:Bool):Option ((List qO)×xx×Unit):=br p14 ((Fe y2.1 3).bind λy15=>iteP (y15.1.length=y2.1.length) ((Fe y15.1 20).bind λy16=>iteP (y16.1.length=y15.1.length) (some (y16.1,(⟨16,0,(IntKind.wrap .i64 (1+y15.2.1)),(IntKind.wrap .i64 (1+y16.2.1)),(⟨0,0,0,0,0,0⟩:Op)⟩:xx),())) none) none) (br (y2.2.1==17) ((Fe y2.1 3).bind λy19=>iteP (y19.1.length=y2.1.length) (some (y19.1,(⟨2,y1.2.1,0,y19.2.1,(⟨0,0,0,0,0,0⟩:Op)⟩:xx),())) none) (br (y2.2.1==18) ((Fe y2.1 3).bind λy20=>iteP (y20.1.length=y2.1.length) (some (y20.1,(⟨2,y1.2.1,0,y20.2.1,(⟨0,0,0,0,0,0⟩:Op)⟩:xx),())) none) ((MG y2.1).bind λy27=>iteP (y27.1.length=y2.1.length) (some (y27.1,(⟨1,y1.2.1,0,0,y27.2.1⟩:xx),())) none)));br (y2.2.1==15) (j21 true) (j21 (y2.2.1==16)))))));br (y2.2.1==9) (j22 true) (j22 (y2.2.1==10))))));br (y2.2.1==4) (j23 true) (j23 (y2.2.1==5))))))) none) none
def Vx[dL] :=Rv 237 Tryz.f237 (.st .cur) [] [.st .event] (λl _=>L0 l) [FV,IL,F8,TT] [] (by kernel_rfl) λl x=>by simp only[L0,tm,-eq_self];kernel_rfl
abbrev Pg:LX:=⟨⟨[R2,Ze,MD],[],[.st .cur,.st .event],1,48⟩,[(.ext 0,⟨[Ze],[],[.st .cur,.st .event],1,48⟩)],[],[0,5,6],[5]⟩
def I3[dL](s:WI×Unit×List qO×List xx×Unit):Pg.R:=
 br (decide (s.1.2.2.1>0)) ((L0 s.2.2.1).bind λy21=>iteP (y21.1.length=s.2.2.1.length) (br (y21.2.1.kind==1) ((Gb y21.1 3).bind λy22=>iteP (y22.1.length=y21.1.length) (br (!y22.2.1) ((Fk y22.1 ([0,0,1]:List Int)).bind λy23=>iteP (y23.1.length=y22.1.length) (iteP ((s.2.2.2.1++([(⟨y21.2.1.kind,y23.2.1,y21.2.1.other,y21.2.1.n,y21.2.1.op⟩:xx)]:List xx)).length*80<=2 ^ 40) (some (.inl (((),(),(IntKind.wrap .i64 (s.1.2.2.1-1)),()),(()),y23.1,(s.2.2.2.1++([(⟨y21.2.1.kind,y23.2.1,y21.2.1.other,y21.2.1.n,y21.2.1.op⟩:xx)]:List xx)),()))) none) none) (iteP ((s.2.2.2.1++([y21.2.1]:List xx)).length*80<=2 ^ 40) (some (.inl (((),(),(IntKind.wrap .i64 (s.1.2.2.1-1)),()),(()),y22.1,(s.2.2.2.1++([y21.2.1]:List xx)),()))) none)) none) (iteP ((s.2.2.2.1++([y21.2.1]:List xx)).length*80<=2 ^ 40) (some (.inl (((),(),(IntKind.wrap .i64 (s.1.2.2.1-1)),()),(()),y21.1,(s.2.2.2.1++([y21.2.1]:List xx)),()))) none)) none) (some (.inr (((),()),(()),s.2.2)))
def KQ[dL] :=md I3
def Tg[dL] :=H3 Tryz.f219 [0] Pg I3 [IL,Vx,F8] [] (by kernel_rfl) λs=>by simp only[I3,tm,-eq_self];kernel_rfl
def K2[dL](a0:List qO)(a1:Int):Option ((List qO)×(List xx)×Unit):=
 (Fe a0 3).bind λy1=>iteP (y1.1.length=a0.length) ((Fe y1.1 20).bind λy2=>iteP (y2.1.length=y1.1.length) ((Gb y2.1 2).bind λy3=>iteP (y3.1.length=y2.1.length) (br y3.2.1 ((Fe y3.1 (IntKind.wrap .i64 (a1+1))).bind λy17=>iteP (y17.1.length=y3.1.length) ((KQ (((),(),y17.2.1,()),(()),y17.1,([(⟨4,0,1,2,(⟨0,0,0,0,0,0⟩:Op)⟩:xx),(⟨5,0,0,0,(⟨0,0,0,0,0,0⟩:Op)⟩:xx)]:List xx),())).bind λe28=>some e28.2.2) none) ((Fe y3.1 (IntKind.wrap .i64 (a1+1))).bind λy29=>iteP (y29.1.length=y3.1.length) ((KQ (((),(),y29.2.1,()),(()),y29.1,([(⟨16,0,(IntKind.wrap .i64 (1+y1.2.1)),(IntKind.wrap .i64 (1+y2.2.1)),(⟨0,0,0,0,0,0⟩:Op)⟩:xx)]:List xx),())).bind λe40=>some e40.2.2) none)) none) none) none
def UM[dL] :=Rv 219 Tryz.f219 (.st .cur) Ua [.ls (.st .event)] (λl x=>K2 l x.1) [FV,IL] [Tg] (by kernel_rfl) λl x=>by simp only[K2,tm,-eq_self];kernel_rfl
def H0(a0:om):Option (om×Unit):=
 iteP ((([]:List Int)++a0.replicas).length*8<=2 ^ 40) (iteP ((([]:List Int)++a0.witnesses).length*8<=2 ^ 40) (some ((⟨a0.epoch,a0.primary,(([]:List Int)++a0.replicas),(([]:List Int)++a0.witnesses)⟩:om),())) none) none
def Oa[dL] :=Fz 149 Tryz.f149 WG YH (λx=>H0 x.1) [] [] (by kernel_rfl) λx=>by simp only[H0,tm];kernel_rfl
def Gj(a0:List sf):Option ((List sf)×Unit):=
 iteP ((([]:List sf)++a0).length*56<=2 ^ 40) (some ((([]:List sf)++a0),())) none
def Jc[dL] :=Fz 87 Tryz.f87 Rj SY (λx=>Gj x.1) [] [] (by kernel_rfl) λx=>by simp only[Gj,tm];kernel_rfl
def Ho(a0:qQ):Option (qQ×Unit):=
 (H0 a0.config).bind λy1=>(Gj a0.log).bind λy2=>(Gj a0.learned).bind λy3=>some ((⟨a0.up,a0.intact,a0.version,a0.epoch,y1.1,a0.first,y2.1,a0.commit,y3.1⟩:qQ),())
def Qr[dL] :=Fz 142 Tryz.f142 UQ [.st .server] (λx=>Ho x.1) [Oa,Jc] [] (by kernel_rfl) λx=>by simp only[Ho,tm];kernel_rfl
abbrev QZ:LX:=⟨⟨[Kd,Og,XE,NB],[VH,YI,Zt],[.st .config],0,29⟩,[(.ext 0,⟨[Nf,R4],[YI,Zt],[.st .config],0,29⟩)],[.b 2 0 (.st .config)],[1,2,3,4],[2,3]⟩
def Jv(s:YG×(ZO×Uc×Uc×Unit)×List om×Unit):QZ.R:=
 br (decide (s.1.2.2.2.1< (s.2.1.1.1.length:Int))) (iteP (0<=s.1.2.2.2.1) ((s.2.1.1.1[s.1.2.2.2.1.toNat]?).bind λx14=>(H0 x14).bind λy15=>iteP ((s.2.2.1++([y15.1]:List om)).length*64<=2 ^ 40) (some (.inl (((),(),(),(IntKind.wrap .i64 (s.1.2.2.2.1+1)),()),s.2.1,(s.2.2.1++([y15.1]:List om)),()))) none) none) (some (.inr (((),(),()),s.2.1.2,s.2.2)))
def QU:=md Jv
def UY[dL] :=H3 Tryz.f143 [0] QZ Jv [Oa] [] (by kernel_rfl) λs=>by simp only[Jv,tm];kernel_rfl
def Ko(a0:kB):Option (kB×Unit):=
 (QU (((),(),(),0,()),((a0.configs,a0.activated,()),((),0,()),((),a0.activated,()),()),([]:List om),())).bind λe16=>some ((⟨e16.2.2.1,e16.2.1.2.1.2.1⟩:kB),())
def Qq[dL] :=Fz 143 Tryz.f143 WH ZR (λx=>Ko x.1) [] [UY] (by kernel_rfl) λx=>by simp only[Ko,tm];kernel_rfl
abbrev Q0:LX:=⟨⟨[Kd,Og,XE,NB],[JG,Nh,Zu],[.st .server],0,42⟩,[(.ext 0,⟨[Kd,Og,XE],[JG,Nh,Zu],[.st .server],0,42⟩)],[.b 2 1 (.st .server)],[1,2,3,4],[1,2,3]⟩
def Jw(s:YG×(MN×ND×(Int×Unit×List Int×List om×Int×Int×Int×Int×Int×List vB×Unit)×Unit)×List qQ×Unit):Q0.R:=
 br (decide (s.1.2.2.2.1< (s.2.1.1.2.1.length:Int))) (iteP (0<=s.1.2.2.2.1) ((s.2.1.1.2.1[s.1.2.2.2.1.toNat]?).bind λx56=>(Ho x56).bind λy57=>iteP ((s.2.2.1++([y57.1]:List qQ)).length*152<=2 ^ 40) (some (.inl (((),(),(),(IntKind.wrap .i64 (s.1.2.2.2.1+1)),()),s.2.1,(s.2.2.1++([y57.1]:List qQ)),()))) none) none) (some (.inr (((),(),(),()),s.2)))
def QV:=md Jw
def UZ[dL] :=H3 Tryz.f65 [0] Q0 Jw [Qr] [] (by kernel_rfl) λs=>by simp only[Jw,tm];kernel_rfl
def Fw(a0:qN):Option (qN×Unit):=
 (QV (((),(),(),0,()),((a0.now,a0.servers,a0.sides,a0.master.configs,a0.master.activated,a0.masterUp,a0.lease.epoch,a0.lease.holder,a0.lease.ends,a0.places,()),(0,(),(),(),0,0,0,0,0,(),()),(a0.now,(),a0.sides,a0.master.configs,a0.master.activated,a0.masterUp,a0.lease.epoch,a0.lease.holder,a0.lease.ends,a0.places,()),()),([]:List qQ),())).bind λe58=>iteP ((([]:List Int)++e58.2.1.1.2.2.1).length*8<=2 ^ 40) ((Ko (⟨e58.2.1.1.2.2.2.1,e58.2.1.1.2.2.2.2.1⟩:kB)).bind λy59=>iteP ((([]:List vB)++e58.2.1.1.2.2.2.2.2.2.2.2.2.1).length*24<=2 ^ 40) (some ((⟨e58.2.1.2.2.1.1,e58.2.2.1,(([]:List Int)++e58.2.1.1.2.2.1),y59.1,e58.2.1.2.2.1.2.2.2.2.2.1,(⟨e58.2.1.2.2.1.2.2.2.2.2.2.1,e58.2.1.2.2.1.2.2.2.2.2.2.2.1,e58.2.1.2.2.1.2.2.2.2.2.2.2.2.1⟩:vz),(([]:List vB)++e58.2.1.1.2.2.2.2.2.2.2.2.2.1)⟩:qN),())) none) none
def FQ[dL] :=Fz 65 Tryz.f65 SW XS (λx=>Fw x.1) [Qq] [UZ] (by kernel_rfl) λx=>by simp only[Fw,tm];kernel_rfl
abbrev Qc:LX:=⟨⟨[Ng,NC],[],[],0,19⟩,[(.ret,⟨[Ng,MC],[],[],0,19⟩),(.ext 0,⟨[Ng,OS],[],[],0,19⟩)],[],[0,3],[0,2]⟩
def IT(s:Zi×Unit×Unit):Qc.R:=
 br (decide (s.1.2.1< (s.1.1.length:Int))) (iteP (0<=s.1.2.1) ((s.1.1[s.1.2.1.toNat]?).bind λx3=>(Ff x3 0 3).bind λy4=>br (!y4.1) (some (.inr (.inl ((s.1.1,false,()),(()),(()))))) (some (.inl ((s.1.1,(IntKind.wrap .i64 (s.1.2.1+1)),()),(()),(()))))) none) (some (.inr (.inr ((s.1.1,(),()),(()),(())))))
def NA:=md IT
def Ug[dL] :=H3 Tryz.f159 [0] Qc IT [FE] [] (by kernel_rfl) λs=>by simp only[IT,tm];kernel_rfl
def G8(a0:List Int):Option (Bool×Unit):=
 (NA ((a0,0,()),(()),(()))).bind λe5=>Sum.elim (λe5_0=>some e5_0.1.2) (λe5_1=>some (((e5_1.1.1.length:Int)==5),())) e5
def Ny[dL] :=Fz 159 Tryz.f159 VG [.b] (λx=>G8 x.1) [] [Ug] (by kernel_rfl) λx=>by simp only[G8,tm];kernel_rfl
abbrev Oq:LX:=⟨⟨[Ng,NC],[],[],0,32⟩,[(.ret,⟨[MC],[],[],0,32⟩),(.ext 0,⟨[OS],[],[],0,32⟩)],[],[0,3],[2]⟩
def Gm(s:Zi×Unit×Unit):Oq.R:=
 br (decide (s.1.2.1< (s.1.1.length:Int))) (iteP (0<=s.1.2.1) ((s.1.1[s.1.2.1.toNat]?).bind λx3=>(Ff x3 0 4).bind λy4=>br (!y4.1) (some (.inr (.inl ((false,()),(()),(()))))) (br (decide (s.1.2.1>0)) (iteP (0<=(IntKind.wrap .i64 (s.1.2.1-1))) ((s.1.1[(IntKind.wrap .i64 (s.1.2.1-1)).toNat]?).bind λx5=>iteP (0<=s.1.2.1) ((s.1.1[s.1.2.1.toNat]?).bind λx6=>br (decide (x5≥x6)) (some (.inr (.inl ((false,()),(()),(()))))) (some (.inl ((s.1.1,(IntKind.wrap .i64 (s.1.2.1+1)),()),(()),(()))))) none) none) (some (.inl ((s.1.1,(IntKind.wrap .i64 (s.1.2.1+1)),()),(()),(())))))) none) (some (.inr (.inr (((),()),(()),(())))))
def J3:=md Gm
def Sj[dL] :=H3 Tryz.f205 [0] Oq Gm [FE] [] (by kernel_rfl) λs=>by simp only[Gm,tm];kernel_rfl
def F2(a0:List Int):Option (Bool×Unit):=
 (J3 ((a0,0,()),(()),(()))).bind λe7=>Sum.elim (λe7_0=>some e7_0.1) (λ_=>some (true,())) e7
def Lz[dL] :=Fz 205 Tryz.f205 VG [.b] (λx=>F2 x.1) [] [Sj] (by kernel_rfl) λx=>by simp only[F2,tm];kernel_rfl
abbrev Pa:LX:=⟨⟨[Ng,J6,K6],[],[],0,18⟩,[(.ret,⟨[Oh],[],[],0,18⟩),(.ext 0,⟨[Oi],[],[],0,18⟩)],[],[0,1,5],[4]⟩
def Im(s:ZP×Unit×Unit):Pa.R:=
 br (decide (s.1.2.2.1< (s.1.1.length:Int))) (iteP (0<=s.1.2.2.1) ((s.1.1[s.1.2.2.1.toNat]?).bind λx4=>br (x4==s.1.2.1) (some (.inr (.inl ((true,()),(()),(()))))) (some (.inl ((s.1.1,s.1.2.1,(IntKind.wrap .i64 (s.1.2.2.1+1)),()),(()),(()))))) none) (some (.inr (.inr (((),()),(()),(())))))
def MM:=md Im
def Ta[dL] :=H3 Tryz.f127 [0] Pa Im [] [] (by kernel_rfl) λs=>by simp only[Im,tm];kernel_rfl
def FC(a0:List Int)(a1:Int):Option (Bool×Unit):=
 (MM ((a0,a1,0,()),(()),(()))).bind λe5=>Sum.elim (λe5_0=>some e5_0.1) (λ_=>some (false,())) e5
def GZ[dL] :=Fz 127 Tryz.f127 Tj [.b] (λx=>FC x.1 x.2.1) [] [Ta] (by kernel_rfl) λx=>by simp only[FC,tm];kernel_rfl
abbrev Tq:LX:=⟨⟨[Ng,J6,K6],[],[],0,47⟩,[(.ext 0,⟨[Ng,J6,K6],[],[],0,47⟩)],[],[0,1,5],[0,1,5]⟩
def IW(s:ZP×Unit×Unit):Tq.R:=
 br (decide (s.1.2.2.1< (s.1.1.length:Int))) (iteP (0<=s.1.2.2.1) ((s.1.1[s.1.2.2.1.toNat]?).bind λx4=>br (decide (x4<s.1.2.1)) (some (.inl ((s.1.1,s.1.2.1,(IntKind.wrap .i64 (s.1.2.2.1+1)),()),(()),(())))) (some (.inr (s.1,(()),(()))))) none) (some (.inr (s.1,(()),(()))))
def Qw:=md IW
def WR[dL] :=H3 Tryz.f211 [0] Tq IW [] [] (by kernel_rfl) λs=>by simp only[IW,tm];kernel_rfl
def HL(a0:List Int)(a1:Int):Option ((List Int)×Unit):=
 (Qw ((a0,a1,0,()),(()),(()))).bind λe5=>let j7:Option ((List Int)×Unit):=iteP (0<=(0:Int)/\(0:Int)<=e5.1.2.2.1/\e5.1.2.2.1<=(e5.1.1.length:Int)) (iteP ((([]:List Int)++((e5.1.1.drop (0:Int).toNat).take (e5.1.2.2.1.toNat-(0:Int).toNat))).length*8<=2 ^ 40) (iteP (((([]:List Int)++((e5.1.1.drop (0:Int).toNat).take (e5.1.2.2.1.toNat-(0:Int).toNat)))++([e5.1.2.1]:List Int)).length*8<=2 ^ 40) (iteP (0<=e5.1.2.2.1/\e5.1.2.2.1<=(e5.1.1.length:Int)/\(e5.1.1.length:Int)<=(e5.1.1.length:Int)) (iteP ((((([]:List Int)++((e5.1.1.drop (0:Int).toNat).take (e5.1.2.2.1.toNat-(0:Int).toNat)))++([e5.1.2.1]:List Int))++((e5.1.1.drop e5.1.2.2.1.toNat).take ((e5.1.1.length:Int).toNat-e5.1.2.2.1.toNat))).length*8<=2 ^ 40) (some ((((([]:List Int)++((e5.1.1.drop (0:Int).toNat).take (e5.1.2.2.1.toNat-(0:Int).toNat)))++([e5.1.2.1]:List Int))++((e5.1.1.drop e5.1.2.2.1.toNat).take ((e5.1.1.length:Int).toNat-e5.1.2.2.1.toNat))),())) none) none) none) none) none;br (decide (e5.1.2.2.1< (e5.1.1.length:Int))) (iteP (0<=e5.1.2.2.1) ((e5.1.1[e5.1.2.2.1.toNat]?).bind λx6=>br (x6==e5.1.2.1) (iteP ((([]:List Int)++e5.1.1).length*8<=2 ^ 40) (some ((([]:List Int)++e5.1.1),())) none) (j7)) none) (j7)
def Nz[dL] :=Fz 211 Tryz.f211 Tj LF (λx=>HL x.1 x.2.1) [] [WR] (by kernel_rfl) λx=>by simp only[HL,tm];kernel_rfl
abbrev ME:LX:=⟨⟨[Ng,O4,Mf,MD],[],Iw,0,27⟩,[(.ext 0,⟨[Mf],[],Iw,0,27⟩)],[],[0,1,5,6],[5]⟩
def GP(s:ZQ×Unit×List Int×Unit):ME.R:=
 br (decide (s.1.2.2.2.1< (s.1.1.length:Int))) (iteP (0<=s.1.2.2.2.1) ((s.1.1[s.1.2.2.2.1.toNat]?).bind λx5=>(FC s.1.2.1 x5).bind λy6=>br y6.1 (iteP (0<=s.1.2.2.2.1) ((s.1.1[s.1.2.2.2.1.toNat]?).bind λx7=>(HL s.2.2.1 x7).bind λy8=>some (.inl ((s.1.1,s.1.2.1,(),(IntKind.wrap .i64 (s.1.2.2.2.1+1)),()),(()),y8.1,()))) none) (some (.inl ((s.1.1,s.1.2.1,(),(IntKind.wrap .i64 (s.1.2.2.2.1+1)),()),(()),s.2.2)))) none) (some (.inr (((),()),(()),s.2.2)))
def MA:=md GP
def Qi[dL] :=H3 Tryz.f164 [0] ME GP [GZ,Nz] [] (by kernel_rfl) λs=>by simp only[GP,tm];kernel_rfl
def GU(a0:List Int)(a1:List Int):Option ((List Int)×Unit):=
 (MA ((a0,a1,(),0,()),(()),([]:List Int),())).bind λe10=>some e10.2.2
def Lb[dL] :=Fz 164 Tryz.f164 Ub LF (λx=>GU x.1 x.2.1) [] [Qi] (by kernel_rfl) λx=>by simp only[GU,tm];kernel_rfl
def Fh(a0:om):Option (Bool×Unit):=
 (Ff a0.epoch 1 20).bind λy1=>br y1.1 ((F2 a0.replicas).bind λy2=>br y2.1 ((F2 a0.witnesses).bind λy3=>br y3.1 ((FC a0.replicas a0.primary).bind λy4=>br y4.1 ((GU a0.replicas a0.witnesses).bind λy5=>some (((y5.1.length:Int)==0),())) (some (false,()))) (some (false,()))) (some (false,()))) (some (false,()))
def Jm[dL] :=Fz 148 Tryz.f148 WG [.b] (λx=>Fh x.1) [FE,Lz,GZ,Lb] [] (by kernel_rfl) λx=>by simp only[Fh,tm];kernel_rfl
abbrev NQ:LX:=⟨⟨[Kd,NC],[VH],[],0,35⟩,[(.ret,⟨[Kd,MC],[VH],[],0,35⟩),(.ext 0,⟨[Kd,OS],[VH],[],0,35⟩)],[],[1,3],[1,2]⟩
def FH(s:Uc×(ZO×Unit)×Unit):NQ.R:=
 br (decide (s.1.2.1< (s.2.1.1.1.length:Int))) (iteP (0<=s.1.2.1) ((s.2.1.1.1[s.1.2.1.toNat]?).bind λx4=>(Fh x4).bind λy5=>br (!y5.1) (some (.inr (.inl (((),false,()),s.2.1,(()))))) (iteP (0<=s.1.2.1) ((s.2.1.1.1[s.1.2.1.toNat]?).bind λx6=>br (!(x6.epoch==(IntKind.wrap .i64 (s.1.2.1+1)))) (some (.inr (.inl (((),false,()),s.2.1,(()))))) (some (.inl (((),(IntKind.wrap .i64 (s.1.2.1+1)),()),s.2.1,(()))))) none)) none) (some (.inr (.inr (((),(),()),s.2.1,(())))))
def Ik:=md FH
def Rq[dL] :=H3 Tryz.f147 [0] NQ FH [Jm] [] (by kernel_rfl) λs=>by simp only[FH,tm];kernel_rfl
def FK(a0:kB):Option (Bool×Unit):=
 (Ik (((),0,()),((a0.configs,a0.activated,()),()),(()))).bind λe7=>Sum.elim (λe7_0=>some e7_0.1.2) (λe7_1=>(Ff e7_1.2.1.1.2.1 0 (e7_1.2.1.1.1.length:Int)).bind λy8=>some (y8.1,())) e7
def KP[dL] :=Fz 147 Tryz.f147 WH [.b] (λx=>FK x.1) [FE] [Rq] (by kernel_rfl) λx=>by simp only[FK,tm];kernel_rfl
def HY(a0:vz):Option (Bool×Unit):=
 br ((a0.epoch==0)&&((a0.holder==0)&&((a0.ends==0)&&true))) (some (true,())) ((Ff a0.epoch 1 20).bind λy1=>br y1.1 ((Ff a0.holder 0 4).bind λy2=>br y2.1 ((Ff a0.ends 1 1049).bind λy3=>some (y3.1,())) (some (false,()))) (some (false,())))
def M5[dL] :=Fz 144 Tryz.f144 XA [.b] (λx=>HY x.1) [FE] [] (by kernel_rfl) λx=>by simp only[HY,tm];kernel_rfl
def FD(a0:Op):Option (Bool×Unit):=
 (Ff a0.client 0 2).bind λy1=>br (!y1.1) (some (false,())) ((Ff a0.seq 1 99).bind λy2=>br (!y2.1) (some (false,())) ((Ff a0.object 0 2).bind λy3=>br (!y3.1) (some (false,())) ((Ff a0.value 0 9).bind λy4=>br (!y4.1) (some (false,())) (br (a0.kind==1) (br (a0.old==0) (some (true,())) (br (a0.kind==2) ((Ff a0.old 0 9).bind λy5=>some (y5.1,())) (some (false,())))) (br (a0.kind==2) ((Ff a0.old 0 9).bind λy6=>some (y6.1,())) (some (false,())))))))
def K4[dL] :=Fz 181 Tryz.f181 V6 [.b] (λx=>FD x.1) [FE] [] (by kernel_rfl) λx=>by simp only[FD,tm];kernel_rfl
abbrev Tp:LX:=⟨⟨[OT,NC],[],[],0,47⟩,[(.ret,⟨[OT,MC],[],[],0,47⟩),(.ext 0,⟨[OT,OS],[],[],0,47⟩)],[],[0,3],[0,2]⟩
def IU(s:Zj×Unit×Unit):Tp.R:=
 br (decide (s.1.2.1< (s.1.1.length:Int))) (iteP (0<=s.1.2.1) ((s.1.1[s.1.2.1.toNat]?).bind λx3=>(Ff x3.epoch 1 20).bind λy4=>br (!y4.1) (some (.inr (.inl ((s.1.1,false,()),(()),(()))))) (iteP (0<=s.1.2.1) ((s.1.1[s.1.2.1.toNat]?).bind λx5=>(FD x5.op).bind λy6=>br (!y6.1) (some (.inr (.inl ((s.1.1,false,()),(()),(()))))) (br (decide (s.1.2.1>0)) (iteP (0<=(IntKind.wrap .i64 (s.1.2.1-1))) ((s.1.1[(IntKind.wrap .i64 (s.1.2.1-1)).toNat]?).bind λx7=>iteP (0<=s.1.2.1) ((s.1.1[s.1.2.1.toNat]?).bind λx8=>br (decide (x7.epoch>x8.epoch)) (some (.inr (.inl ((s.1.1,false,()),(()),(()))))) (some (.inl ((s.1.1,(IntKind.wrap .i64 (s.1.2.1+1)),()),(()),(()))))) none) none) (some (.inl ((s.1.1,(IntKind.wrap .i64 (s.1.2.1+1)),()),(()),(())))))) none)) none) (some (.inr (.inr ((s.1.1,(),()),(()),(())))))
def Nb:=md IU
def WQ[dL] :=H3 Tryz.f115 [0] Tp IU [FE,K4] [] (by kernel_rfl) λs=>by simp only[IU,tm];kernel_rfl
def Gk(a0:List sf):Option (Bool×Unit):=
 (Nb ((a0,0,()),(()),(()))).bind λe9=>Sum.elim (λe9_0=>some e9_0.1.2) (λe9_1=>some ((decide ((e9_1.1.1.length:Int)<=16)),())) e9
def LA[dL] :=Fz 115 Tryz.f115 Rj [.b] (λx=>Gk x.1) [] [WQ] (by kernel_rfl) λx=>by simp only[Gk,tm];kernel_rfl
abbrev Nl:LX:=⟨⟨[Ng,O4,K6],[],[],0,26⟩,[(.ret,⟨[Oh],[],[],0,26⟩),(.ext 0,⟨[Oi],[],[],0,26⟩)],[],[0,1,5],[4]⟩
def G0(s:Zk×Unit×Unit):Nl.R:=
 br (decide (s.1.2.2.1< (s.1.1.length:Int))) (iteP (0<=s.1.2.2.1) ((s.1.1[s.1.2.2.1.toNat]?).bind λx4=>iteP (0<=s.1.2.2.1) ((s.1.2.1[s.1.2.2.1.toNat]?).bind λx5=>br (!(x4==x5)) (some (.inr (.inl ((false,()),(()),(()))))) (some (.inl ((s.1.1,s.1.2.1,(IntKind.wrap .i64 (s.1.2.2.1+1)),()),(()),(()))))) none) none) (some (.inr (.inr (((),()),(()),(())))))
def Kz:=md G0
def QC[dL] :=H3 Tryz.f210 [0] Nl G0 [] [] (by kernel_rfl) λs=>by simp only[G0,tm];kernel_rfl
def HW(a0:List Int)(a1:List Int):Option (Bool×Unit):=
 br (!((a0.length:Int)==(a1.length:Int))) (some (false,())) ((Kz ((a0,a1,0,()),(()),(()))).bind λe6=>Sum.elim (λe6_0=>some e6_0.1) (λ_=>some (true,())) e6)
def RM[dL] :=Fz 210 Tryz.f210 Ub [.b] (λx=>HW x.1 x.2.1) [] [QC] (by kernel_rfl) λx=>by simp only[HW,tm];kernel_rfl
def Gu(a0:om)(a1:om):Option (Bool×Unit):=
 br (a0.epoch==a1.epoch) (br (a0.primary==a1.primary) ((HW a0.replicas a1.replicas).bind λy1=>br y1.1 ((HW a0.witnesses a1.witnesses).bind λy2=>some (y2.1,())) (some (false,()))) (some (false,()))) (some (false,()))
def JZ[dL] :=Fz 163 Tryz.f163 Y1 [.b] (λx=>Gu x.1 x.2.1) [RM] [] (by kernel_rfl) λx=>by simp only[Gu,tm];kernel_rfl
def It(a0:om):Option (Bool×Unit):=
 (Gu a0 (⟨0,0,([]:List Int),([]:List Int)⟩:om)).bind λy1=>some (y1.1,())
def OM[dL] :=Fz 162 Tryz.f162 WG [.b] (λx=>It x.1) [JZ] [] (by kernel_rfl) λx=>by simp only[It,tm];kernel_rfl
def JD(a0:List sf):Option (Int×Unit):=
 br ((a0.length:Int)==0) (some (0,())) (iteP (0<=(IntKind.wrap .i64 ((a0.length:Int)-1))) ((a0[(IntKind.wrap .i64 ((a0.length:Int)-1)).toNat]?).bind λx1=>some (x1.epoch,())) none)
def Qs[dL] :=Fz 150 Tryz.f150 Rj Ke (λx=>JD x.1) [] [] (by kernel_rfl) λx=>by simp only[JD,tm];kernel_rfl
def GV(a0:om)(a1:Int):Option (Int×Unit):=
 (Fh a0).bind λy1=>br (!y1.1) (some (0,())) (br (a1==a0.primary) (some (1,())) ((FC a0.replicas a1).bind λy2=>br y2.1 (some (2,())) ((FC a0.witnesses a1).bind λy3=>br y3.1 (some (3,())) (some (0,())))))
def M7[dL] :=Fz 119 Tryz.f119 Y2 Ke (λx=>GV x.1 x.2.1) [Jm,GZ] [] (by kernel_rfl) λx=>by simp only[GV,tm];kernel_rfl
def Fn(a0:qQ)(a1:Int):Option (Bool×Unit):=
 (Ff a0.version 1 2).bind λy1=>br (!y1.1) (some (false,())) ((Ff a0.epoch 0 20).bind λy2=>br (!y2.1) (some (false,())) ((Gk a0.log).bind λy3=>br (!y3.1) (some (false,())) ((Gk a0.learned).bind λy4=>br (!y4.1) (some (false,())) ((Ff a0.first 0 16).bind λy5=>br (!y5.1) (some (false,())) ((Ff (IntKind.wrap .i64 (a0.first+(a0.log.length:Int))) 0 16).bind λy6=>br (!y6.1) (some (false,())) ((Ff a0.commit 0 (IntKind.wrap .i64 (a0.first+(a0.log.length:Int)))).bind λy7=>br (!y7.1) (some (false,())) ((It a0.config).bind λy8=>br y8.1 (br (a0.first==0) (br ((a0.log.length:Int)==0) (some ((a0.commit==0),())) (some (false,()))) (some (false,()))) (br (!a0.intact) (some (false,())) (br (decide (a0.epoch<a0.config.epoch)) (some (false,())) ((JD a0.log).bind λy9=>br (decide (y9.1>a0.config.epoch)) (some (false,())) ((GV a0.config a1).bind λy10=>br (y10.1==0) (some (false,())) (br (y10.1==3) (br (decide ((a0.log.length:Int)<=3)) (br ((a0.log.length:Int)==3) (some (true,())) (some ((a0.first==0),()))) (some (false,()))) (some ((a0.first==0),()))))))))))))))
def NJ[dL] :=Fz 161 Tryz.f161 UR [.b] (λx=>Fn x.1 x.2.1) [FE,LA,OM,Qs,M7] [] (by kernel_rfl) λx=>by simp only[Fn,tm];kernel_rfl
def Ha(a0:kB)(a1:Int):Option (om×Bool×Unit):=
 (FK a0).bind λy1=>br (!y1.1) (some ((⟨0,0,([]:List Int),([]:List Int)⟩:om),false,())) ((Ff a1 1 (a0.configs.length:Int)).bind λy2=>br (!y2.1) (some ((⟨0,0,([]:List Int),([]:List Int)⟩:om),false,())) (iteP (0<=(IntKind.wrap .i64 (a1-1))) ((a0.configs[(IntKind.wrap .i64 (a1-1)).toNat]?).bind λx3=>(H0 x3).bind λy4=>some (y4.1,true,())) none))
def Pn[dL] :=Fz 158 Tryz.f158 XB WJ (λx=>Ha x.1 x.2.1) [KP,FE,Oa] [] (by kernel_rfl) λx=>by simp only[Ha,tm];kernel_rfl
abbrev Mj:LX:=⟨⟨[Kd,NC],[JG],[],0,123⟩,[(.ret,⟨[MC],[],[],0,123⟩),(.ext 0,⟨[OS],[],[],0,123⟩)],[],[1,3],[2]⟩
def Fr(s:Uc×(MN×Unit)×Unit):Mj.R:=
 br (decide (s.1.2.1< (s.2.1.1.2.1.length:Int))) (iteP (0<=s.1.2.1) ((s.2.1.1.2.1[s.1.2.1.toNat]?).bind λx18=>(Fn x18 s.1.2.1).bind λy19=>br (!y19.1) (some (.inr (.inl ((false,()),(()),(()))))) (br (decide (x18.epoch>(s.2.1.1.2.2.2.1.length:Int))) (some (.inr (.inl ((false,()),(()),(()))))) ((JD x18.learned).bind λy20=>br (decide (y20.1>s.2.1.1.2.2.2.2.1)) (some (.inr (.inl ((false,()),(()),(()))))) ((Ha (⟨s.2.1.1.2.2.2.1,s.2.1.1.2.2.2.2.1⟩:kB) x18.config.epoch).bind λy21=>(It x18.config).bind λy22=>br (!y22.1) (br (!y21.2.1) (some (.inr (.inl ((false,()),(()),(()))))) ((Gu y21.1 x18.config).bind λy23=>br (!y23.1) (some (.inr (.inl ((false,()),(()),(()))))) (br (decide (x18.config.epoch>s.2.1.1.2.2.2.2.1)) (some (.inr (.inl ((false,()),(()),(()))))) (some (.inl (((),(IntKind.wrap .i64 (s.1.2.1+1)),()),s.2.1,(()))))))) (some (.inl (((),(IntKind.wrap .i64 (s.1.2.1+1)),()),s.2.1,(())))))))) none) (some (.inr (.inr (((),()),(()),(())))))
def Ia:=md Fr
def Py[dL] :=H3 Tryz.f79 [0] Mj Fr [NJ,Qs,Pn,OM,JZ] [] (by kernel_rfl) λs=>by simp only[Fr,tm];kernel_rfl
def Fd(a0:qN):Option (Bool×Unit):=
 (Ff a0.now 0 999).bind λy1=>br (!y1.1) (some (false,())) (br (!((a0.servers.length:Int)==5)) (some (false,())) ((G8 a0.sides).bind λy2=>br (!y2.1) (some (false,())) ((FK a0.master).bind λy3=>br (!y3.1) (some (false,())) ((Ff a0.masterUp 0 3).bind λy4=>br (!y4.1) (some (false,())) ((HY a0.lease).bind λy5=>br (!y5.1) (some (false,())) ((FG a0.places).bind λy6=>br (!y6.1) (some (false,())) (br (decide (a0.lease.epoch>a0.master.activated)) (some (false,())) ((Ia (((),0,()),((a0.now,a0.servers,a0.sides,a0.master.configs,a0.master.activated,a0.masterUp,a0.lease.epoch,a0.lease.holder,a0.lease.ends,a0.places,()),()),(()))).bind λe24=>Sum.elim (λe24_0=>some e24_0.1) (λ_=>some (true,())) e24))))))))
def Fg[dL] :=Fz 79 Tryz.f79 SW [.b] (λx=>Fd x.1) [FE,Ny,KP,M5,K3] [Py] (by kernel_rfl) λx=>by simp only[Fd,tm];kernel_rfl
def M2(a0:Int):Option (Bool×Bool×Bool×Unit):=
 br (a0==1) (some (true,false,false,())) (let j5 (p1:Bool):Option (Bool×Bool×Bool×Unit):=br p1 (some (true,false,false,())) (let j4 (p2:Bool):Option (Bool×Bool×Bool×Unit):=br p2 (some (true,false,true,())) (br (a0==4) (some (false,true,true,())) (br (a0==10) (some (false,false,true,())) (br (a0==11) (some (false,false,true,())) (br (a0==12) (some (true,true,true,())) (br (a0==16) (some (false,true,true,())) (some (false,false,false,())))))));br (a0==2) (j4 true) (br (a0==3) (j4 true) (j4 (a0==9))));br (a0==6) (j5 true) (br (a0==7) (j5 true) (br (a0==8) (j5 true) (br (a0==13) (j5 true) (br (a0==14) (j5 true) (j5 (a0==15)))))))
def WE[dL] :=Fz 267 Tryz.f267 Ua [.b,.b,.b] (λx=>M2 x.1) [] [] (by kernel_rfl) λx=>by simp only[M2,tm];kernel_rfl
def IC(a0:xx):Option (Bool×Unit):=
 (Ff a0.kind 1 16).bind λy1=>br (!y1.1) (some (false,())) ((Ff a0.server 0 4).bind λy2=>br (!y2.1) (some (false,())) ((Ff a0.other 0 4).bind λy3=>br (!y3.1) (some (false,())) ((Ff a0.n 0 999).bind λy4=>br (!y4.1) (some (false,())) ((M2 a0.kind).bind λy5=>let j7:Option (Bool×Unit):=br (a0.kind==1) ((FD a0.op).bind λy6=>some (y6.1,())) (some (((a0.op.client==0)&&((a0.op.seq==0)&&((a0.op.kind==0)&&((a0.op.object==0)&&((a0.op.old==0)&&((a0.op.value==0)&&true)))))),()));br (!y5.1) (br (!(a0.server==0)) (some (false,())) (br (!y5.2.1) (br (!(a0.other==0)) (some (false,())) (br (!y5.2.2.1) (br (!(a0.n==0)) (some (false,())) (j7)) (j7))) (br (!y5.2.2.1) (br (!(a0.n==0)) (some (false,())) (j7)) (j7)))) (br (!y5.2.1) (br (!(a0.other==0)) (some (false,())) (br (!y5.2.2.1) (br (!(a0.n==0)) (some (false,())) (j7)) (j7))) (br (!y5.2.2.1) (br (!(a0.n==0)) (some (false,())) (j7)) (j7)))))))
def RN[dL] :=Fz 250 Tryz.f250 [.ty (.st .event)] [.b] (λx=>IC x.1) [FE,WE,K4] [] (by kernel_rfl) λx=>by simp only[IC,tm];kernel_rfl
def Ga(a0:qQ)(a1:Int):Option (Bool×Unit):=
 (Fn a0 a1).bind λy1=>br y1.1 (br a0.up ((GV a0.config a1).bind λy2=>br (y2.1==1) (some ((a0.epoch==a0.config.epoch),())) (some (false,()))) (some (false,()))) (some (false,()))
def IJ[dL] :=Fz 109 Tryz.f109 UR [.b] (λx=>Ga x.1 x.2.1) [NJ,M7] [] (by kernel_rfl) λx=>by simp only[Ga,tm];kernel_rfl
abbrev R9:LX:=⟨⟨[OT,J6,P8,Mg],[],[],0,33⟩,[(.ret,⟨[MD],[],[],0,33⟩),(.ext 0,⟨[(6,.cl (.dead))],[],[],0,33⟩)],[],[0,1,2,7],[6]⟩
def Kg(s: (List sf×Int×Int×Int×Unit)×Unit×Unit):R9.R:=
 br (decide (s.1.2.2.2.1< (s.1.1.length:Int))) (iteP (0<=s.1.2.2.2.1) ((s.1.1[s.1.2.2.2.1.toNat]?).bind λx5=>br (x5.op.client==s.1.2.1) (iteP (0<=s.1.2.2.2.1) ((s.1.1[s.1.2.2.2.1.toNat]?).bind λx6=>br (x6.op.seq==s.1.2.2.1) (some (.inr (.inl (s.1.2.2.2,(()),(()))))) (some (.inl ((s.1.1,s.1.2.1,s.1.2.2.1,(IntKind.wrap .i64 (s.1.2.2.2.1+1)),()),(()),(()))))) none) (some (.inl ((s.1.1,s.1.2.1,s.1.2.2.1,(IntKind.wrap .i64 (s.1.2.2.2.1+1)),()),(()),(()))))) none) (some (.inr (.inr (((),()),(()),(())))))
def VB:=md Kg
def VO[dL] :=H3 Tryz.f269 [0] R9 Kg [] [] (by kernel_rfl) λs=>by simp only[Kg,tm];kernel_rfl
def MW(a0:List sf)(a1:Int)(a2:Int):Option (Int×Unit):=
 (VB ((a0,a1,a2,0,()),(()),(()))).bind λe7=>Sum.elim (λe7_0=>some e7_0.1) (λ_=>some ((-1),())) e7
def UC[dL] :=Fz 269 Tryz.f269 Y3 Ke (λx=>MW x.1 x.2.1 x.2.2.1) [] [VO] (by kernel_rfl) λx=>by simp only[MW,tm];kernel_rfl
def Lu:Option (nX×Unit):=
 some ((⟨([0,0,0]:List Int),([]:List nY)⟩:nX),())
def TN[dL] :=Fz 114 Tryz.f114 [] [.st .machine] (λ_=>Lu) [] [] (by kernel_rfl) λx=>by simp only[Lu,tm];kernel_rfl
def N5(a0:nX):Option (nX×Unit):=
 iteP ((([]:List Int)++a0.objects).length*8<=2 ^ 40) (iteP ((([]:List nY)++a0.sessions).length*32<=2 ^ 40) (some ((⟨(([]:List Int)++a0.objects),(([]:List nY)++a0.sessions)⟩:nX),())) none) none
def Xv[dL] :=Fz 182 Tryz.f182 [.ty (.st .machine)] [.st .machine] (λx=>N5 x.1) [] [] (by kernel_rfl) λx=>by simp only[N5,tm];kernel_rfl
abbrev Ml:LX:=⟨⟨[Kd,NC],[VI],[],0,69⟩,[(.ret,⟨[Kd,MC],[VI],[],0,69⟩),(.ext 0,⟨[Kd,OS],[VI],[],0,69⟩)],[],[1,3],[1,2]⟩
def H6(s:Uc×(XN×Unit)×Unit):Ml.R:=
 br (decide (s.1.2.1< (s.2.1.1.1.length:Int))) (iteP (0<=s.1.2.1) ((s.2.1.1.1[s.1.2.1.toNat]?).bind λx4=>(Ff x4 0 9).bind λy5=>br (!y5.1) (some (.inr (.inl (((),false,()),s.2.1,(()))))) (some (.inl (((),(IntKind.wrap .i64 (s.1.2.1+1)),()),s.2.1,(()))))) none) (some (.inr (.inr (((),(),()),s.2.1,(())))))
def Pr:=md H6
def Pz[dL] :=H3 Tryz.f183 [0] Ml H6 [FE] [] (by kernel_rfl) λs=>by simp only[H6,tm];kernel_rfl
abbrev Mm:LX:=⟨⟨[Kd,NB],[VI],[],0,69⟩,[(.ret,⟨[Kd,MC],[VI],[],0,69⟩),(.ext 2,⟨[Kd,OS],[VI],[],0,69⟩)],[],[1,4],[1,2]⟩
def H7(s:Uc×(XN×Unit)×Unit):Mm.R:=
 br (decide (s.1.2.1< (s.2.1.1.2.1.length:Int))) (iteP (0<=s.1.2.1) ((s.2.1.1.2.1[s.1.2.1.toNat]?).bind λx10=>(Ff x10.client 0 2).bind λy11=>br (!y11.1) (some (.inr (.inl (((),false,()),s.2.1,(()))))) ((Ff x10.seq 1 99).bind λy12=>br (!y12.1) (some (.inr (.inl (((),false,()),s.2.1,(()))))) ((Ff x10.result.value 0 9).bind λy13=>br (!y13.1) (some (.inr (.inl (((),false,()),s.2.1,(()))))) (br (decide (s.1.2.1>0)) (iteP (0<=(IntKind.wrap .i64 (s.1.2.1-1))) ((s.2.1.1.2.1[(IntKind.wrap .i64 (s.1.2.1-1)).toNat]?).bind λx14=>br (decide (x14.client≥x10.client)) (some (.inr (.inl (((),false,()),s.2.1,(()))))) (some (.inl (((),(IntKind.wrap .i64 (s.1.2.1+1)),()),s.2.1,(()))))) none) (some (.inl (((),(IntKind.wrap .i64 (s.1.2.1+1)),()),s.2.1,(())))))))) none) (some (.inr (.inr (((),(),()),s.2.1,(())))))
def Ma:=md H7
def PA[dL] :=H3 Tryz.f183 [1] Mm H7 [FE] [] (by kernel_rfl) λs=>by simp only[H7,tm];kernel_rfl
def G6(a0:nX):Option (Bool×Unit):=
 (Pr (((),0,()),((a0.objects,a0.sessions,()),()),(()))).bind λe6=>Sum.elim (λe6_0=>some e6_0.1.2) (λe6_1=>(Ma (((),0,()),e6_1.2.1,(()))).bind λe15=>Sum.elim (λe15_0=>some e15_0.1.2) (λe15_1=>some (((e15_1.2.1.1.1.length:Int)==3),())) e15) e6
def M6[dL] :=Fz 183 Tryz.f183 [.ty (.st .machine)] [.b] (λx=>G6 x.1) [] [Pz,PA] (by kernel_rfl) λx=>by simp only[G6,tm];kernel_rfl
abbrev Pd:LX:=⟨⟨[J6,Nf,Tl,MD],[VI,XT],[],0,28⟩,[(.ret,⟨[O5,(5,.cl (.bl))],[XT],[],0,28⟩),(.ext 0,⟨[O5,(5,.cl (.dead))],[XT],[],0,28⟩)],[],[1,2,4,6],[4,5]⟩
def KK(s: (Int×Unit×Unit×Int×Unit)×(XN×(Int×Int×Bool×Int×Unit)×Unit)×Unit):Pd.R:=
 br (decide (s.1.2.2.2.1< (s.2.1.1.2.1.length:Int))) (iteP (0<=s.1.2.2.2.1) ((s.2.1.1.2.1[s.1.2.2.2.1.toNat]?).bind λx9=>br (x9.client==s.1.1) (iteP (0<=s.1.2.2.2.1) ((s.2.1.1.2.1[s.1.2.2.2.1.toNat]?).bind λx10=>some (.inr (.inl (((),true,()),((x10.client,x10.seq,x10.result.done,x10.result.value,()),()),(()))))) none) (some (.inl ((s.1.1,(),(),(IntKind.wrap .i64 (s.1.2.2.2.1+1)),()),s.2.1,(()))))) none) (some (.inr (.inr (((),(),()),s.2.1.2,(())))))
def SU:=md KK
def Te[dL] :=H3 Tryz.f184 [0] Pd KK [] [] (by kernel_rfl) λs=>by simp only[KK,tm];kernel_rfl
def KX(a0:nX)(a1:Int):Option (nY×Bool×Unit):=
 (SU ((a1,(),(),0,()),((a0.objects,a0.sessions,()),(0,0,false,0,()),()),(()))).bind λe11=>Sum.elim (λe11_0=>some ((⟨e11_0.2.1.1.1,e11_0.2.1.1.2.1,(⟨e11_0.2.1.1.2.2.1,e11_0.2.1.1.2.2.2.1⟩:Result)⟩:nY),e11_0.1.2)) (λ_=>some ((⟨0,0,(⟨false,0⟩:Result)⟩:nY),false,())) e11
def UH[dL] :=Fz 184 Tryz.f184 Y4 [.st .session,.b] (λx=>KX x.1 x.2.1) [] [Te] (by kernel_rfl) λx=>by simp only[KX,tm];kernel_rfl
abbrev Qb:LX:=⟨⟨[R5,Tl,(5,.cl (.ptr 2 0)),XF,O6,(11,.cl (.ptr 4 0)),P9],[Zv,[.em,.em],We,Wf,We],YJ,0,127⟩,[(.ext 0,⟨[R5,Tl,(5,.cl (.ptr 2 0)),XF,O6,(11,.cl (.ptr 4 0)),P9],[Zv,[.em,.em],We,Wf,We],YJ,0,127⟩)],[],[3,4,5,7,9,11,12],[3,4,5,7,9,11,12]⟩
def IR(s: (Unit×Unit×Unit×Unit×Bool×Unit×Int×Unit)×((Int×Int×Int×Int×Int×Int×Unit)×XR×(Bool×Int×Unit)×XR×(Bool×Int×Unit)×Unit)×List Int×List nY×Unit):Qb.R:=
 br (decide (s.1.2.2.2.2.2.2.1< (s.2.2.2.1.length:Int))) (iteP (0<=s.1.2.2.2.2.2.2.1/\s.1.2.2.2.2.2.2.1< (s.2.2.2.1.length:Int)) ((s.2.2.2.1[s.1.2.2.2.2.2.2.1.toNat]?).bind λx22=>br (decide (x22.client<s.2.1.1.1)) (some (.inl (((),(),(),(),s.1.2.2.2.2.1,(),(IntKind.wrap .i64 (s.1.2.2.2.2.2.2.1+1)),()),s.2))) (some (.inr s))) none) (some (.inr s))
def LC:=md IR
def Uf[dL] :=H3 Tryz.f116 [0] Qb IR [] [] (by kernel_rfl) λs=>by simp only[IR,tm];kernel_rfl
def Kj(a0:nX)(a1:Op):Option (nX×Result×Bool×Unit):=
 (N5 a0).bind λy1=>(G6 a0).bind λy2=>br (!y2.1) (some (y1.1,(⟨false,0⟩:Result),false,())) ((FD a1).bind λy3=>br (!y3.1) (some (y1.1,(⟨false,0⟩:Result),false,())) ((KX a0 a1.client).bind λy4=>let j45:Option (nX×Result×Bool×Unit):=let j44:Option (nX×Result×Bool×Unit):=iteP (0<=a1.object) ((a0.objects[a1.object.toNat]?).bind λx5=>br (a1.kind==1) (iteP (0<=a1.object/\a1.object< (y1.1.objects.length:Int)) ((y1.1.objects[a1.object.toNat]?).bind λ_=>(LC (((),(),(),(),y4.2.1,(),0,()),((a1.client,a1.seq,a1.kind,a1.object,a1.old,a1.value,()),((),(),()),(false,0,()),((),(),()),(true,x5,()),()),(y1.1.objects.set a1.object.toNat a1.value),y1.1.sessions,())).bind λe23=>iteP (0<=e23.1.2.2.2.2.2.2.1/\e23.1.2.2.2.2.2.2.1<=(e23.2.2.2.1.length:Int)/\(e23.2.2.2.1.length:Int)<=((e23.2.2.2.1.length:Nat):Int)) (br e23.1.2.2.2.2.1 (iteP (0<=(IntKind.wrap .i64 (e23.1.2.2.2.2.2.2.1+1))/\(IntKind.wrap .i64 (e23.1.2.2.2.2.2.2.1+1))<=(e23.2.2.2.1.length:Int)/\(e23.2.2.2.1.length:Int)<=((e23.2.2.2.1.length:Nat):Int)) (iteP (0<=(0:Int)/\(0:Int)<=e23.1.2.2.2.2.2.2.1/\e23.1.2.2.2.2.2.2.1<=((e23.2.2.2.1.length:Nat):Int)) (iteP ((0+(0:Int).toNat)+(e23.1.2.2.2.2.2.2.1.toNat-(0:Int).toNat)<=e23.2.2.2.1.length) (iteP ((([]:List nY)++((e23.2.2.2.1.drop (0+(0:Int).toNat)).take (e23.1.2.2.2.2.2.2.1.toNat-(0:Int).toNat))).length*32<=2 ^ 40) (iteP (((([]:List nY)++((e23.2.2.2.1.drop (0+(0:Int).toNat)).take (e23.1.2.2.2.2.2.2.1.toNat-(0:Int).toNat)))++([(⟨e23.2.1.1.1,e23.2.1.1.2.1,(⟨e23.2.1.2.2.2.2.1.1,e23.2.1.2.2.2.2.1.2.1⟩:Result)⟩:nY)]:List nY)).length*32<=2 ^ 40) (iteP ((0+(IntKind.wrap .i64 (e23.1.2.2.2.2.2.2.1+1)).toNat)+((e23.2.2.2.1.length:Int).toNat-(IntKind.wrap .i64 (e23.1.2.2.2.2.2.2.1+1)).toNat)<=e23.2.2.2.1.length) (iteP ((((([]:List nY)++((e23.2.2.2.1.drop (0+(0:Int).toNat)).take (e23.1.2.2.2.2.2.2.1.toNat-(0:Int).toNat)))++([(⟨e23.2.1.1.1,e23.2.1.1.2.1,(⟨e23.2.1.2.2.2.2.1.1,e23.2.1.2.2.2.2.1.2.1⟩:Result)⟩:nY)]:List nY))++((e23.2.2.2.1.drop (0+(IntKind.wrap .i64 (e23.1.2.2.2.2.2.2.1+1)).toNat)).take ((e23.2.2.2.1.length:Int).toNat-(IntKind.wrap .i64 (e23.1.2.2.2.2.2.2.1+1)).toNat))).length*32<=2 ^ 40) (some ((⟨e23.2.2.1,(((([]:List nY)++((e23.2.2.2.1.drop (0+(0:Int).toNat)).take (e23.1.2.2.2.2.2.2.1.toNat-(0:Int).toNat)))++([(⟨e23.2.1.1.1,e23.2.1.1.2.1,(⟨e23.2.1.2.2.2.2.1.1,e23.2.1.2.2.2.2.1.2.1⟩:Result)⟩:nY)]:List nY))++((e23.2.2.2.1.drop (0+(IntKind.wrap .i64 (e23.1.2.2.2.2.2.2.1+1)).toNat)).take ((e23.2.2.2.1.length:Int).toNat-(IntKind.wrap .i64 (e23.1.2.2.2.2.2.2.1+1)).toNat)))⟩:nX),(⟨e23.2.1.2.2.2.2.1.1,e23.2.1.2.2.2.2.1.2.1⟩:Result),true,())) none) none) none) none) none) none) none) (iteP (0<=(0:Int)/\(0:Int)<=e23.1.2.2.2.2.2.2.1/\e23.1.2.2.2.2.2.2.1<=((e23.2.2.2.1.length:Nat):Int)) (iteP ((0+(0:Int).toNat)+(e23.1.2.2.2.2.2.2.1.toNat-(0:Int).toNat)<=e23.2.2.2.1.length) (iteP ((([]:List nY)++((e23.2.2.2.1.drop (0+(0:Int).toNat)).take (e23.1.2.2.2.2.2.2.1.toNat-(0:Int).toNat))).length*32<=2 ^ 40) (iteP (((([]:List nY)++((e23.2.2.2.1.drop (0+(0:Int).toNat)).take (e23.1.2.2.2.2.2.2.1.toNat-(0:Int).toNat)))++([(⟨e23.2.1.1.1,e23.2.1.1.2.1,(⟨e23.2.1.2.2.2.2.1.1,e23.2.1.2.2.2.2.1.2.1⟩:Result)⟩:nY)]:List nY)).length*32<=2 ^ 40) (iteP ((0+e23.1.2.2.2.2.2.2.1.toNat)+((e23.2.2.2.1.length:Int).toNat-e23.1.2.2.2.2.2.2.1.toNat)<=e23.2.2.2.1.length) (iteP ((((([]:List nY)++((e23.2.2.2.1.drop (0+(0:Int).toNat)).take (e23.1.2.2.2.2.2.2.1.toNat-(0:Int).toNat)))++([(⟨e23.2.1.1.1,e23.2.1.1.2.1,(⟨e23.2.1.2.2.2.2.1.1,e23.2.1.2.2.2.2.1.2.1⟩:Result)⟩:nY)]:List nY))++((e23.2.2.2.1.drop (0+e23.1.2.2.2.2.2.2.1.toNat)).take ((e23.2.2.2.1.length:Int).toNat-e23.1.2.2.2.2.2.2.1.toNat))).length*32<=2 ^ 40) (some ((⟨e23.2.2.1,(((([]:List nY)++((e23.2.2.2.1.drop (0+(0:Int).toNat)).take (e23.1.2.2.2.2.2.2.1.toNat-(0:Int).toNat)))++([(⟨e23.2.1.1.1,e23.2.1.1.2.1,(⟨e23.2.1.2.2.2.2.1.1,e23.2.1.2.2.2.2.1.2.1⟩:Result)⟩:nY)]:List nY))++((e23.2.2.2.1.drop (0+e23.1.2.2.2.2.2.2.1.toNat)).take ((e23.2.2.2.1.length:Int).toNat-e23.1.2.2.2.2.2.2.1.toNat)))⟩:nX),(⟨e23.2.1.2.2.2.2.1.1,e23.2.1.2.2.2.2.1.2.1⟩:Result),true,())) none) none) none) none) none) none)) none) none) (let j43 (p26:List Int):Option (nX×Result×Bool×Unit):=(LC (((),(),(),(),y4.2.1,(),0,()),((a1.client,a1.seq,a1.kind,a1.object,a1.old,a1.value,()),((),(),()),(false,0,()),((),(),()),((x5==a1.old),x5,()),()),p26,y1.1.sessions,())).bind λe42=>iteP (0<=e42.1.2.2.2.2.2.2.1/\e42.1.2.2.2.2.2.2.1<=(e42.2.2.2.1.length:Int)/\(e42.2.2.2.1.length:Int)<=((e42.2.2.2.1.length:Nat):Int)) (br e42.1.2.2.2.2.1 (iteP (0<=(IntKind.wrap .i64 (e42.1.2.2.2.2.2.2.1+1))/\(IntKind.wrap .i64 (e42.1.2.2.2.2.2.2.1+1))<=(e42.2.2.2.1.length:Int)/\(e42.2.2.2.1.length:Int)<=((e42.2.2.2.1.length:Nat):Int)) (iteP (0<=(0:Int)/\(0:Int)<=e42.1.2.2.2.2.2.2.1/\e42.1.2.2.2.2.2.2.1<=((e42.2.2.2.1.length:Nat):Int)) (iteP ((0+(0:Int).toNat)+(e42.1.2.2.2.2.2.2.1.toNat-(0:Int).toNat)<=e42.2.2.2.1.length) (iteP ((([]:List nY)++((e42.2.2.2.1.drop (0+(0:Int).toNat)).take (e42.1.2.2.2.2.2.2.1.toNat-(0:Int).toNat))).length*32<=2 ^ 40) (iteP (((([]:List nY)++((e42.2.2.2.1.drop (0+(0:Int).toNat)).take (e42.1.2.2.2.2.2.2.1.toNat-(0:Int).toNat)))++([(⟨e42.2.1.1.1,e42.2.1.1.2.1,(⟨e42.2.1.2.2.2.2.1.1,e42.2.1.2.2.2.2.1.2.1⟩:Result)⟩:nY)]:List nY)).length*32<=2 ^ 40) (iteP ((0+(IntKind.wrap .i64 (e42.1.2.2.2.2.2.2.1+1)).toNat)+((e42.2.2.2.1.length:Int).toNat-(IntKind.wrap .i64 (e42.1.2.2.2.2.2.2.1+1)).toNat)<=e42.2.2.2.1.length) (iteP ((((([]:List nY)++((e42.2.2.2.1.drop (0+(0:Int).toNat)).take (e42.1.2.2.2.2.2.2.1.toNat-(0:Int).toNat)))++([(⟨e42.2.1.1.1,e42.2.1.1.2.1,(⟨e42.2.1.2.2.2.2.1.1,e42.2.1.2.2.2.2.1.2.1⟩:Result)⟩:nY)]:List nY))++((e42.2.2.2.1.drop (0+(IntKind.wrap .i64 (e42.1.2.2.2.2.2.2.1+1)).toNat)).take ((e42.2.2.2.1.length:Int).toNat-(IntKind.wrap .i64 (e42.1.2.2.2.2.2.2.1+1)).toNat))).length*32<=2 ^ 40) (some ((⟨e42.2.2.1,(((([]:List nY)++((e42.2.2.2.1.drop (0+(0:Int).toNat)).take (e42.1.2.2.2.2.2.2.1.toNat-(0:Int).toNat)))++([(⟨e42.2.1.1.1,e42.2.1.1.2.1,(⟨e42.2.1.2.2.2.2.1.1,e42.2.1.2.2.2.2.1.2.1⟩:Result)⟩:nY)]:List nY))++((e42.2.2.2.1.drop (0+(IntKind.wrap .i64 (e42.1.2.2.2.2.2.2.1+1)).toNat)).take ((e42.2.2.2.1.length:Int).toNat-(IntKind.wrap .i64 (e42.1.2.2.2.2.2.2.1+1)).toNat)))⟩:nX),(⟨e42.2.1.2.2.2.2.1.1,e42.2.1.2.2.2.2.1.2.1⟩:Result),true,())) none) none) none) none) none) none) none) (iteP (0<=(0:Int)/\(0:Int)<=e42.1.2.2.2.2.2.2.1/\e42.1.2.2.2.2.2.2.1<=((e42.2.2.2.1.length:Nat):Int)) (iteP ((0+(0:Int).toNat)+(e42.1.2.2.2.2.2.2.1.toNat-(0:Int).toNat)<=e42.2.2.2.1.length) (iteP ((([]:List nY)++((e42.2.2.2.1.drop (0+(0:Int).toNat)).take (e42.1.2.2.2.2.2.2.1.toNat-(0:Int).toNat))).length*32<=2 ^ 40) (iteP (((([]:List nY)++((e42.2.2.2.1.drop (0+(0:Int).toNat)).take (e42.1.2.2.2.2.2.2.1.toNat-(0:Int).toNat)))++([(⟨e42.2.1.1.1,e42.2.1.1.2.1,(⟨e42.2.1.2.2.2.2.1.1,e42.2.1.2.2.2.2.1.2.1⟩:Result)⟩:nY)]:List nY)).length*32<=2 ^ 40) (iteP ((0+e42.1.2.2.2.2.2.2.1.toNat)+((e42.2.2.2.1.length:Int).toNat-e42.1.2.2.2.2.2.2.1.toNat)<=e42.2.2.2.1.length) (iteP ((((([]:List nY)++((e42.2.2.2.1.drop (0+(0:Int).toNat)).take (e42.1.2.2.2.2.2.2.1.toNat-(0:Int).toNat)))++([(⟨e42.2.1.1.1,e42.2.1.1.2.1,(⟨e42.2.1.2.2.2.2.1.1,e42.2.1.2.2.2.2.1.2.1⟩:Result)⟩:nY)]:List nY))++((e42.2.2.2.1.drop (0+e42.1.2.2.2.2.2.2.1.toNat)).take ((e42.2.2.2.1.length:Int).toNat-e42.1.2.2.2.2.2.2.1.toNat))).length*32<=2 ^ 40) (some ((⟨e42.2.2.1,(((([]:List nY)++((e42.2.2.2.1.drop (0+(0:Int).toNat)).take (e42.1.2.2.2.2.2.2.1.toNat-(0:Int).toNat)))++([(⟨e42.2.1.1.1,e42.2.1.1.2.1,(⟨e42.2.1.2.2.2.2.1.1,e42.2.1.2.2.2.2.1.2.1⟩:Result)⟩:nY)]:List nY))++((e42.2.2.2.1.drop (0+e42.1.2.2.2.2.2.2.1.toNat)).take ((e42.2.2.2.1.length:Int).toNat-e42.1.2.2.2.2.2.2.1.toNat)))⟩:nX),(⟨e42.2.1.2.2.2.2.1.1,e42.2.1.2.2.2.2.1.2.1⟩:Result),true,())) none) none) none) none) none) none)) none;br (x5==a1.old) (iteP (0<=a1.object/\a1.object< (y1.1.objects.length:Int)) ((y1.1.objects[a1.object.toNat]?).bind λ_=>j43 (y1.1.objects.set a1.object.toNat a1.value)) none) (j43 y1.1.objects))) none;br y4.2.1 (br (decide (y4.1.seq>a1.seq)) (some (y1.1,(⟨false,0⟩:Result),false,())) (j44)) (j44);br y4.2.1 (br (y4.1.seq==a1.seq) (some (y1.1,y4.1.result,true,())) (j45)) (j45)))
def Qn[dL] :=Fz 116 Tryz.f116 [.ty (.st .machine),.ty (.st .op)] [.st .machine,.st .result,.b] (λx=>Kj x.1 x.2.1) [Xv,M6,K4,UH] [Uf] (by kernel_rfl) λx=>by simp only[Kj,tm];kernel_rfl
abbrev Pb:LX:=⟨⟨[OT,Nf,Tl,K6],[[.em,.em],Wf],YJ,0,29⟩,[(.ext 0,⟨[Nf,Tl],[[.em,.em],Wf],YJ,0,29⟩)],[],[0,2,4,5],[2,4]⟩
def KI(s: (List sf×Unit×Unit×Int×Unit)×(XR×XR×Unit)×List Int×List nY×Unit):Pb.R:=
 br (decide (s.1.2.2.2.1< (s.1.1.length:Int))) (iteP (0<=s.1.2.2.2.1) ((s.1.1[s.1.2.2.2.1.toNat]?).bind λx7=>(Kj (⟨s.2.2.1,s.2.2.2.1⟩:nX) x7.op).bind λy8=>some (.inl ((s.1.1,(),(),(IntKind.wrap .i64 (s.1.2.2.2.1+1)),()),(((),(),()),((),(),()),()),y8.1.objects,y8.1.sessions,()))) none) (some (.inr (((),(),()),s.2)))
def SR:=md KI
def Tc[dL] :=H3 Tryz.f39 [0] Pb KI [Qn] [] (by kernel_rfl) λs=>by simp only[KI,tm];kernel_rfl
def IG(a0:List sf):Option (nX×Bool×Unit):=
 (Lu).bind λy1=>(Gk a0).bind λy2=>br (!y2.1) (some ((⟨([]:List Int),([]:List nY)⟩:nX),false,())) ((SR ((a0,(),(),0,()),(((),(),()),((),(),()),()),y1.1.objects,y1.1.sessions,())).bind λe9=>some ((⟨e9.2.2.1,e9.2.2.2.1⟩:nX),true,()))
def N9[dL] :=Fz 39 Tryz.f39 Rj [.st .machine,.b] (λx=>IG x.1) [TN,LA] [Tc] (by kernel_rfl) λx=>by simp only[IG,tm];kernel_rfl
def Ir(a0:Op):Option (Bool×Unit):=
 some ((a0.kind==2),())
def OZ[dL] :=Fz 204 Tryz.f204 V6 [.b] (λx=>Ir x.1) [] [] (by kernel_rfl) λx=>by simp only[Ir,tm];kernel_rfl
def GN(a0:qN)(a1:Int):Option (Bool×Unit):=
 (Fd a0).bind λy1=>br y1.1 ((Ff a1 0 4).bind λy2=>br y2.1 (iteP (0<=a1) ((a0.servers[a1.toNat]?).bind λx3=>(Ga x3 a1).bind λy4=>some (y4.1,())) none) (some (false,()))) (some (false,()))
def LB[dL] :=Fz 112 Tryz.f112 LD [.b] (λx=>GN x.1 x.2.1) [Fg,FE,IJ] [] (by kernel_rfl) λx=>by simp only[GN,tm];kernel_rfl
abbrev Nm:LX:=⟨⟨[Ng,O4,Mf,MD],[],Iw,0,34⟩,[(.ext 0,⟨[O4,Mf],[],Iw,0,34⟩)],[],[0,1,5,6],[1,5]⟩
def G1(s:ZQ×Unit×List Int×Unit):Nm.R:=
 br (decide (s.1.2.2.2.1< (s.1.1.length:Int))) (iteP (0<=s.1.2.2.2.1) ((s.1.1[s.1.2.2.2.1.toNat]?).bind λx5=>(HL s.2.2.1 x5).bind λy6=>some (.inl ((s.1.1,s.1.2.1,(),(IntKind.wrap .i64 (s.1.2.2.2.1+1)),()),(()),y6.1,()))) none) (some (.inr ((s.1.2.1,(),()),(()),s.2.2)))
def Nc:=md G1
def QD[dL] :=H3 Tryz.f192 [0] Nm G1 [Nz] [] (by kernel_rfl) λs=>by simp only[G1,tm];kernel_rfl
abbrev Nn:LX:=⟨⟨[O4,Mf,Mg],[],Iw,0,34⟩,[(.ext 2,⟨[Mf],[],Iw,0,34⟩)],[],[1,5,7],[5]⟩
def G2(s:Zl×Unit×List Int×Unit):Nn.R:=
 br (decide (s.1.2.2.1< (s.1.1.length:Int))) (iteP (0<=s.1.2.2.1) ((s.1.1[s.1.2.2.1.toNat]?).bind λx11=>(HL s.2.2.1 x11).bind λy12=>some (.inl ((s.1.1,(),(IntKind.wrap .i64 (s.1.2.2.1+1)),()),(()),y12.1,()))) none) (some (.inr (((),()),(()),s.2.2)))
def Nd:=md G2
def QE[dL] :=H3 Tryz.f192 [1] Nn G2 [Nz] [] (by kernel_rfl) λs=>by simp only[G2,tm];kernel_rfl
def IH(a0:List Int)(a1:List Int):Option ((List Int)×Unit):=
 (Nc ((a0,a1,(),0,()),(()),([]:List Int),())).bind λe7=>(Nd ((e7.1.1,(),0,()),(()),e7.2.2)).bind λe13=>some e13.2.2
def RT[dL] :=Fz 192 Tryz.f192 Ub LF (λx=>IH x.1 x.2.1) [] [QD,QE] (by kernel_rfl) λx=>by simp only[IH,tm];kernel_rfl
def Gi(a0:om):Option ((List Int)×Unit):=
 (Fh a0).bind λy1=>br (!y1.1) (some (([]:List Int),())) ((IH a0.replicas a0.witnesses).bind λy2=>some (y2.1,()))
def IK[dL] :=Fz 120 Tryz.f120 WG LF (λx=>Gi x.1) [Jm,RT] [] (by kernel_rfl) λx=>by simp only[Gi,tm];kernel_rfl
abbrev NP:LX:=⟨⟨[Nf,K6,(6,.cl (.own 0 (.i .i64))),Mg],[JG],Iw,0,37⟩,[(.ext 0,⟨[K6],[],[],0,37⟩)],[],[2,5,6,7],[5]⟩
def Jg(s:Zm×(MN×Unit)×List Int×Unit):NP.R:=
 br (decide (s.1.2.2.2.1< (s.2.2.1.length:Int))) (iteP (0<=s.1.2.2.2.1/\s.1.2.2.2.1< (s.2.2.1.length:Int)) ((s.2.2.1[s.1.2.2.2.1.toNat]?).bind λx17=>iteP (0<=x17) ((s.2.1.1.2.1[x17.toNat]?).bind λx18=>some (.inl (((),(if x18.version<s.1.2.1 then x18.version else s.1.2.1),(),(IntKind.wrap .i64 (s.1.2.2.2.1+1)),()),s.2))) none) none) (some (.inr ((s.1.2.1,()),(()),(()))))
def Re:=md Jg
def Rp[dL] :=H3 Tryz.f50 [0] NP Jg [] [] (by kernel_rfl) λs=>by simp only[Jg,tm];kernel_rfl
def I8(a0:qN)(a1:Int):Option (Int×Unit):=
 (GN a0 a1).bind λy1=>br (!y1.1) (some (0,())) (iteP (0<=a1) ((a0.servers[a1.toNat]?).bind λx2=>(Gi x2.config).bind λy3=>(Re (((),2,(),0,()),((a0.now,a0.servers,a0.sides,a0.master.configs,a0.master.activated,a0.masterUp,a0.lease.epoch,a0.lease.holder,a0.lease.ends,a0.places,()),()),y3.1,())).bind λe19=>some e19.1) none)
def SH[dL] :=Fz 50 Tryz.f50 LD Ke (λx=>I8 x.1 x.2.1) [LB,IK] [Rp] (by kernel_rfl) λx=>by simp only[I8,tm];kernel_rfl
def Hv(a0:qN)(a1:Int)(a2:Op):Option (qN×Int×Unit):=
 (Fw a0).bind λy1=>(Fd a0).bind λy2=>br (!y2.1) (some (y1.1,1,())) ((Ff a1 0 4).bind λy3=>br (!y3.1) (some (y1.1,1,())) ((FD a2).bind λy4=>br (!y4.1) (some (y1.1,1,())) (iteP (0<=a1) ((a0.servers[a1.toNat]?).bind λx5=>br (!x5.up) (some (y1.1,2,())) ((Ga x5 a1).bind λy6=>br (!y6.1) (some (y1.1,3,())) ((MW x5.log a2.client a2.seq).bind λy7=>let j18:Option (qN×Int×Unit):=(IG x5.log).bind λy9=>(Kj y9.1 a2).bind λy10=>br (!y10.2.2.1) (some (y1.1,11,())) ((Ir a2).bind λy11=>let j17:Option (qN×Int×Unit):=iteP (0<=a1/\a1< (y1.1.servers.length:Int)) ((y1.1.servers[a1.toNat]?).bind λx13=>(y1.1.servers[a1.toNat]?).bind λx14=>iteP ((0:Nat)=0) (iteP (x14.log.length<x13.log.length) none (iteP ((x14.log.take x13.log.length++([(⟨x5.epoch,a2⟩:sf)]:List sf)).length*56<=2 ^ 40) (iteP (0<=a1/\a1< (y1.1.servers.length:Int)) ((y1.1.servers[a1.toNat]?).bind λx15=>iteP (a1.toNat=a1.toNat) (some ((⟨y1.1.now,(y1.1.servers.set a1.toNat (⟨x15.up,x15.intact,x15.version,x15.epoch,x15.config,x15.first,(x14.log.take x13.log.length++([(⟨x5.epoch,a2⟩:sf)]:List sf)),x15.commit,x15.learned⟩:qQ)),y1.1.sides,y1.1.master,y1.1.masterUp,y1.1.lease,y1.1.places⟩:qN),0,())) none) none) none)) none) none;br y11.1 ((I8 a0 a1).bind λy12=>br (decide (y12.1<2)) (some (y1.1,6,())) (br ((x5.log.length:Int)==16) (some (y1.1,5,())) (j17))) (br ((x5.log.length:Int)==16) (some (y1.1,5,())) (j17)));br (decide (y7.1≥0)) (iteP (0<=y7.1) ((x5.log[y7.1.toNat]?).bind λx8=>br (!((x8.op.client==a2.client)&&((x8.op.seq==a2.seq)&&((x8.op.kind==a2.kind)&&((x8.op.object==a2.object)&&((x8.op.old==a2.old)&&((x8.op.value==a2.value)&&true))))))) (some (y1.1,11,())) (br (decide (y7.1≥0)) (some (y1.1,0,())) (j18))) none) (br (decide (y7.1≥0)) (some (y1.1,0,())) (j18))))) none)))
def PV[dL] :=Fz 268 Tryz.f268 Y5 NT (λx=>Hv x.1 x.2.1 x.2.2.1) [FQ,Fg,FE,K4,IJ,UC,N9,Qn,OZ,SH] [] (by kernel_rfl) λx=>by simp only[Hv,tm,-eq_self];kernel_rfl
def Gv(a0:List Int)(a1:Int)(a2:Int):Option (Bool×Unit):=
 (G8 a0).bind λy1=>br y1.1 ((Ff a1 0 4).bind λy2=>br y2.1 ((Ff a2 0 4).bind λy3=>br y3.1 (iteP (0<=a1) ((a0[a1.toNat]?).bind λx4=>iteP (0<=a2) ((a0[a2.toNat]?).bind λx5=>some ((x4==x5),())) none) none) (some (false,()))) (some (false,()))) (some (false,()))
def Kt[dL] :=Fz 97 Tryz.f97 XC [.b] (λx=>Gv x.1 x.2.1 x.2.2.1) [Ny,FE] [] (by kernel_rfl) λx=>by simp only[Gv,tm];kernel_rfl
def Kq(a0:qN)(a1:Int)(a2:Int):Option (Bool×Unit):=
 iteP (0<=a2) ((a0.servers[a2.toNat]?).bind λx1=>(Gv a0.sides a1 a2).bind λy2=>br y2.1 (br x1.up (iteP (0<=a1) ((a0.servers[a1.toNat]?).bind λx3=>br (x1.epoch==x3.epoch) (iteP (0<=a1) ((a0.servers[a1.toNat]?).bind λx4=>br (decide (x1.commit<=(x4.log.length:Int))) (iteP (0<=a1) ((a0.servers[a1.toNat]?).bind λx5=>(Gu x1.config x5.config).bind λy6=>some (y6.1,())) none) (some (false,()))) none) (some (false,()))) none) (some (false,()))) (some (false,()))) none
def RU[dL] :=Fz 128 Tryz.f128 SX [.b] (λx=>Kq x.1 x.2.1 x.2.2.1) [Kt,JZ] [] (by kernel_rfl) λx=>by simp only[Kq,tm];kernel_rfl
def OG(a0:List sf):Option (Int×(List sf)×Unit):=
 (Gk a0).bind λy1=>br (!y1.1) (some (0,([]:List sf),())) (iteP (0<=(if (IntKind.wrap .i64 ((a0.length:Int)-3))>0 then (IntKind.wrap .i64 ((a0.length:Int)-3)) else 0)/\(if (IntKind.wrap .i64 ((a0.length:Int)-3))>0 then (IntKind.wrap .i64 ((a0.length:Int)-3)) else 0)<=(a0.length:Int)/\(a0.length:Int)<=(a0.length:Int)) ((Gj ((a0.drop (if (IntKind.wrap .i64 ((a0.length:Int)-3))>0 then (IntKind.wrap .i64 ((a0.length:Int)-3)) else 0).toNat).take ((a0.length:Int).toNat-(if (IntKind.wrap .i64 ((a0.length:Int)-3))>0 then (IntKind.wrap .i64 ((a0.length:Int)-3)) else 0).toNat))).bind λy2=>some ((if (IntKind.wrap .i64 ((a0.length:Int)-3))>0 then (IntKind.wrap .i64 ((a0.length:Int)-3)) else 0),y2.1,())) none)
def Wx[dL] :=Fz 197 Tryz.f197 Rj aae (λx=>OG x.1) [LA,Jc] [] (by kernel_rfl) λx=>by simp only[OG,tm];kernel_rfl
def N4(a0:List sf):Option (Int×(List sf)×Unit):=
 (OG a0).bind λy1=>some (y1.1,y1.2.1,())
def Xt[dL] :=Fz 129 Tryz.f129 Rj aae (λx=>N4 x.1) [Wx] [] (by kernel_rfl) λx=>by simp only[N4,tm];kernel_rfl
def IE(a0:qN)(a1:Int)(a2:Int):Option (qN×Bool×Unit):=
 (Fw a0).bind λy1=>(GN a0 a1).bind λy2=>br (!y2.1) (some (y1.1,false,())) (iteP (0<=a1) ((a0.servers[a1.toNat]?).bind λx3=>(Gi x3.config).bind λy4=>(FC y4.1 a2).bind λy5=>br (!y5.1) (some (y1.1,false,())) ((Kq a0 a1 a2).bind λy6=>br (!y6.1) (some (y1.1,false,())) (iteP (0<=a1) ((a0.servers[a1.toNat]?).bind λx7=>iteP (0<=a1) ((a0.servers[a1.toNat]?).bind λx8=>(GV x8.config a2).bind λy9=>br (y9.1==3) ((N4 x7.log).bind λy10=>iteP (0<=a2/\a2< (y1.1.servers.length:Int)) (iteP (0<=a2/\a2< (y1.1.servers.length:Int)) ((y1.1.servers[a2.toNat]?).bind λx11=>let z12:=y1.1.servers.set a2.toNat (⟨x11.up,x11.intact,x11.version,x11.epoch,x11.config,y10.1,x11.log,x11.commit,x11.learned⟩:qQ);(z12[a2.toNat]?).bind λx13=>some ((⟨y1.1.now,(z12.set a2.toNat (⟨x13.up,x13.intact,x13.version,x13.epoch,x13.config,x13.first,y10.2.1,x13.commit,x13.learned⟩:qQ)),y1.1.sides,y1.1.master,y1.1.masterUp,y1.1.lease,y1.1.places⟩:qN),true,())) none) none) ((Gj x7.log).bind λy15=>iteP (0<=a2/\a2< (y1.1.servers.length:Int)) ((y1.1.servers[a2.toNat]?).bind λx16=>some ((⟨y1.1.now,(y1.1.servers.set a2.toNat (⟨x16.up,x16.intact,x16.version,x16.epoch,x16.config,x16.first,y15.1,x16.commit,x16.learned⟩:qQ)),y1.1.sides,y1.1.master,y1.1.masterUp,y1.1.lease,y1.1.places⟩:qN),true,())) none)) none) none))) none)
def RR[dL] :=Fz 54 Tryz.f54 SX [.st .cluster,.b] (λx=>IE x.1 x.2.1 x.2.2.1) [FQ,LB,IK,GZ,RU,M7,Xt,Jc] [] (by kernel_rfl) λx=>by simp only[IE,tm];kernel_rfl
abbrev J8:LX:=⟨⟨[J6,O5,OU,XG,US,(9,.cl (.int .i64))],[Nh,WL],YK,0,74⟩,[(.ext 0,⟨[J6,O5,OU,XG,US],[Nh,WL],YK,0,74⟩)],[],[1,4,6,7,8,9],[1,4,6,7,8]⟩
def Ix(s:XO×(ND×ND×Unit)×List Int×List qQ×List Int×List om×List vB×Unit):J8.R:=
 br (decide (s.1.2.2.2.2.2.1< (s.2.2.1.length:Int))) (iteP (0<=s.1.2.2.2.2.2.1/\s.1.2.2.2.2.2.1< (s.2.2.1.length:Int)) ((s.2.2.1[s.1.2.2.2.2.2.1.toNat]?).bind λx25=>(IE (⟨s.2.1.2.1.1,s.2.2.2.1,s.2.2.2.2.1,(⟨s.2.2.2.2.2.1,s.2.1.2.1.2.2.2.2.1⟩:kB),s.2.1.2.1.2.2.2.2.2.1,(⟨s.2.1.2.1.2.2.2.2.2.2.1,s.2.1.2.1.2.2.2.2.2.2.2.1,s.2.1.2.1.2.2.2.2.2.2.2.2.1⟩:vz),s.2.2.2.2.2.2.1⟩:qN) s.1.1 x25).bind λy26=>let j28 (p27:Bool):J8.R:=some (.inl ((s.1.1,(),(),(),p27,(IntKind.wrap .i64 (s.1.2.2.2.2.2.1+1)),()),(s.2.1.1,(y26.1.now,(),(),(),y26.1.master.activated,y26.1.masterUp,y26.1.lease.epoch,y26.1.lease.holder,y26.1.lease.ends,(),()),()),s.2.2.1,y26.1.servers,y26.1.sides,y26.1.master.configs,y26.1.places,()));br s.1.2.2.2.2.1 (j28 y26.2.1) (j28 false)) none) (some (.inr ((s.1.1,(),(),(),s.1.2.2.2.2.1,()),s.2)))
def P6:=md Ix
def Qh[dL] :=H3 Tryz.f46 [0] J8 Ix [RR] [] (by kernel_rfl) λs=>by simp only[Ix,tm];kernel_rfl
abbrev Mi:LX:=⟨⟨[J6,O5,OU,XG,US,P9],[Nh,WL],YK,0,74⟩,[(.ext 2,⟨[O5,OU,US],[Nh,VJ],XY,0,74⟩)],[],[1,4,6,7,8,12],[4,6,8]⟩
def H5(s:XO×(ND×ND×Unit)×List Int×List qQ×List Int×List om×List vB×Unit):Mi.R:=
 br (decide (s.1.2.2.2.2.2.1< (s.2.2.1.length:Int))) (br s.1.2.2.2.2.1 (iteP (0<=s.1.2.2.2.2.2.1/\s.1.2.2.2.2.2.1< (s.2.2.1.length:Int)) ((s.2.2.1[s.1.2.2.2.2.2.1.toNat]?).bind λx50=>iteP (0<=s.1.1/\s.1.1< (s.2.2.2.1.length:Int)) ((s.2.2.2.1[s.1.1.toNat]?).bind λx51=>iteP (0<=x50/\x50< (s.2.2.2.1.length:Int)) ((s.2.2.2.1[x50.toNat]?).bind λx52=>some (.inl ((s.1.1,(),(),(),s.1.2.2.2.2.1,(IntKind.wrap .i64 (s.1.2.2.2.2.2.1+1)),()),s.2.1,s.2.2.1,(s.2.2.2.1.set x50.toNat (⟨x52.up,x52.intact,x52.version,x52.epoch,x52.config,x52.first,x52.log,((x51.log.length:Nat):Int),x52.learned⟩:qQ)),s.2.2.2.2))) none) none) none) (some (.inr (((),(),s.1.2.2.2.2.1,()),s.2.1,s.2.2.2)))) (some (.inr (((),(),s.1.2.2.2.2.1,()),s.2.1,s.2.2.2)))
def Pq:=md H5
def Px[dL] :=H3 Tryz.f46 [1] Mi H5 [] [] (by kernel_rfl) λs=>by simp only[H5,tm];kernel_rfl
def Hl(a0:qN)(a1:Int):Option (qN×Bool×Unit):=
 (Fw a0).bind λy1=>(GN a0 a1).bind λy2=>br (!y2.1) (some (y1.1,false,())) (iteP (0<=a1) ((a0.servers[a1.toNat]?).bind λx3=>(Gi x3.config).bind λy4=>(P6 ((a1,(),(),(),true,0,()),((0,(),(),(),0,0,0,0,0,(),()),(y1.1.now,(),(),(),y1.1.master.activated,y1.1.masterUp,y1.1.lease.epoch,y1.1.lease.holder,y1.1.lease.ends,(),()),()),y4.1,y1.1.servers,y1.1.sides,y1.1.master.configs,y1.1.places,())).bind λe29=>(Pq ((e29.1.1,(),(),(),e29.1.2.2.2.2.1,0,()),e29.2)).bind λe54=>some ((⟨e54.2.1.2.1.1,e54.2.2.1,e54.2.2.2.1,(⟨e54.2.2.2.2.1,e54.2.1.2.1.2.2.2.2.1⟩:kB),e54.2.1.2.1.2.2.2.2.2.1,(⟨e54.2.1.2.1.2.2.2.2.2.2.1,e54.2.1.2.1.2.2.2.2.2.2.2.1,e54.2.1.2.1.2.2.2.2.2.2.2.2.1⟩:vz),e54.2.2.2.2.2.1⟩:qN),e54.1.2.2)) none)
def NH[dL] :=Fz 46 Tryz.f46 LD [.st .cluster,.b] (λx=>Hl x.1 x.2.1) [FQ,LB,IK] [Qh,Px] (by kernel_rfl) λx=>by simp only[Hl,tm];kernel_rfl
def Km(a0:List sf)(a1:Int):Option (Result×Bool×Unit):=
 (Gk a0).bind λy1=>br (!y1.1) (some ((⟨false,0⟩:Result),false,())) ((Ff a1 0 (IntKind.wrap .i64 ((a0.length:Int)-1))).bind λy2=>br (!y2.1) (some ((⟨false,0⟩:Result),false,())) (iteP (0<=(0:Int)/\(0:Int)<=a1/\a1<=(a0.length:Int)) ((IG ((a0.drop (0:Int).toNat).take (a1.toNat-(0:Int).toNat))).bind λy3=>iteP (0<=a1) ((a0[a1.toNat]?).bind λx4=>(Kj y3.1 x4.op).bind λy5=>some (y5.2.1,y5.2.2.1,())) none) none))
def Vr[dL] :=Fz 270 Tryz.f270 XD [.st .result,.b] (λx=>Km x.1 x.2.1) [LA,FE,N9,Qn] [] (by kernel_rfl) λx=>by simp only[Km,tm];kernel_rfl
def LQ(a0:qN)(a1:Int)(a2:Op):Option (qN×xB×Unit):=
 (Hv a0 a1 a2).bind λy1=>br (!(y1.2.1==0)) (some (y1.1,(⟨y1.2.1,(⟨false,0⟩:Result),0⟩:xB),())) (iteP (0<=a1/\a1< (y1.1.servers.length:Int)) ((y1.1.servers[a1.toNat]?).bind λx2=>(y1.1.servers[a1.toNat]?).bind λx3=>iteP (0+x2.log.length<=x3.log.length) ((MW ((x3.log.drop 0).take x2.log.length) a2.client a2.seq).bind λy4=>iteP (0<=a1/\a1< (y1.1.servers.length:Int)) ((y1.1.servers[a1.toNat]?).bind λx5=>br (decide (y4.1≥x5.commit)) ((Hl y1.1 a1).bind λy6=>br (!y6.2.1) (some (y6.1,(⟨4,(⟨false,0⟩:Result),0⟩:xB),())) (iteP (0<=a1/\a1< (y6.1.servers.length:Int)) ((y6.1.servers[a1.toNat]?).bind λx20=>(y6.1.servers[a1.toNat]?).bind λx21=>iteP (0+x20.log.length<=x21.log.length) ((Km ((x21.log.drop 0).take x20.log.length) y4.1).bind λy22=>some (y6.1,(⟨0,y22.1,y4.1⟩:xB),())) none) none)) (iteP (0<=a1/\a1< (y1.1.servers.length:Int)) ((y1.1.servers[a1.toNat]?).bind λx23=>(y1.1.servers[a1.toNat]?).bind λx24=>iteP (0+x23.log.length<=x24.log.length) ((Km ((x24.log.drop 0).take x23.log.length) y4.1).bind λy25=>some (y1.1,(⟨0,y25.1,y4.1⟩:xB),())) none) none)) none) none) none)
def Vm[dL] :=Fz 251 Tryz.f251 Y5 Zq (λx=>LQ x.1 x.2.1 x.2.2.1) [PV,UC,NH,Vr] [] (by kernel_rfl) λx=>by simp only[LQ,tm];kernel_rfl
def JE(a0:qN)(a1:Int):Option (Int×Unit):=
 (Fd a0).bind λy1=>br (!y1.1) (some (1,())) ((Ff a1 0 4).bind λy2=>br (!y2.1) (some (1,())) (iteP (0<=a1) ((a0.servers[a1.toNat]?).bind λx3=>br (!x3.up) (some (2,())) (some (0,()))) none))
def QS[dL] :=Fz 108 Tryz.f108 LD Ke (λx=>JE x.1 x.2.1) [Fg,FE] [] (by kernel_rfl) λx=>by simp only[JE,tm];kernel_rfl
def JR(a0:vz)(a1:Int)(a2:Int)(a3:Int):Option (Bool×Unit):=
 (HY a0).bind λy1=>br y1.1 ((Ff a3 0 999).bind λy2=>br y2.1 (br (decide (a0.ends>0)) (br (a0.epoch==a1) (br (a0.holder==a2) (some ((decide ((IntKind.wrap .i64 (a3+3))<a0.ends)),())) (some (false,()))) (some (false,()))) (some (false,()))) (some (false,()))) (some (false,()))
def TH[dL] :=Fz 113 Tryz.f113 [.ty (.st .lease),.ty (.i .i64),.ty (.i .i64),.ty (.i .i64)] [.b] (λx=>JR x.1 x.2.1 x.2.2.1 x.2.2.2.1) [M5,FE] [] (by kernel_rfl) λx=>by simp only[JR,tm];kernel_rfl
def HV(a0:qN)(a1:Int):Option (Bool×Unit):=
 (GN a0 a1).bind λy1=>br y1.1 (iteP (0<=a1) ((a0.servers[a1.toNat]?).bind λx2=>(JR a0.lease x2.config.epoch a1 a0.now).bind λy3=>some (y3.1,())) none) (some (false,()))
def Qo[dL] :=Fz 38 Tryz.f38 LD [.b] (λx=>HV x.1 x.2.1) [LB,TH] [] (by kernel_rfl) λx=>by simp only[HV,tm];kernel_rfl
def FB(a0:qQ):Option ((List sf)×Unit):=
 (Ff a0.commit a0.first (IntKind.wrap .i64 (a0.first+(a0.log.length:Int)))).bind λy1=>br (!y1.1) (some (([]:List sf),())) (br (decide (a0.first<0)) (some (([]:List sf),())) (iteP (0<=(0:Int)/\(0:Int)<=(IntKind.wrap .i64 (a0.commit-a0.first))/\(IntKind.wrap .i64 (a0.commit-a0.first))<=(a0.log.length:Int)) ((Gj ((a0.log.drop (0:Int).toNat).take ((IntKind.wrap .i64 (a0.commit-a0.first)).toNat-(0:Int).toNat))).bind λy2=>some (y2.1,())) none))
def Jl[dL] :=Fz 40 Tryz.f40 UQ SY (λx=>FB x.1) [FE,Jc] [] (by kernel_rfl) λx=>by simp only[FB,tm];kernel_rfl
def JW(a0:nX)(a1:Int):Option (Int×Bool×Unit):=
 (G6 a0).bind λy1=>br (!y1.1) (some (0,false,())) ((Ff a1 0 2).bind λy2=>br (!y2.1) (some (0,false,())) (iteP (0<=a1) ((a0.objects[a1.toNat]?).bind λx3=>some (x3,true,())) none))
def TO[dL] :=Fz 180 Tryz.f180 Y4 [.i .i64,.b] (λx=>JW x.1 x.2.1) [M6,FE] [] (by kernel_rfl) λx=>by simp only[JW,tm];kernel_rfl
def LY(a0:qQ)(a1:Int):Option (xB×Unit):=
 (FB a0).bind λy1=>(IG y1.1).bind λy2=>(JW y2.1 a1).bind λy3=>some ((⟨0,(⟨true,y3.1⟩:Result),a0.commit⟩:xB),())
def Vv[dL] :=Fz 110 Tryz.f110 UR [.st .reply] (λx=>LY x.1 x.2.1) [Jl,N9,TO] [] (by kernel_rfl) λx=>by simp only[LY,tm];kernel_rfl
def KU(a0:qN)(a1:Int)(a2:Int):Option (xB×Unit):=
 (JE a0 a1).bind λy1=>br (!(y1.1==0)) (some ((⟨y1.1,(⟨false,0⟩:Result),0⟩:xB),())) ((Ff a2 0 2).bind λy2=>br (!y2.1) (some ((⟨1,(⟨false,0⟩:Result),0⟩:xB),())) (iteP (0<=a1) ((a0.servers[a1.toNat]?).bind λx3=>(Ga x3 a1).bind λy4=>br (!y4.1) (some ((⟨3,(⟨false,0⟩:Result),0⟩:xB),())) ((HV a0 a1).bind λy5=>br (!y5.1) (some ((⟨7,(⟨false,0⟩:Result),0⟩:xB),())) (iteP (0<=a1) ((a0.servers[a1.toNat]?).bind λx6=>(LY x6 a2).bind λy7=>some (y7.1,())) none))) none))
def UE[dL] :=Fz 36 Tryz.f36 SX [.st .reply] (λx=>KU x.1 x.2.1 x.2.2.1) [QS,FE,IJ,Qo,Vv] [] (by kernel_rfl) λx=>by simp only[KU,tm];kernel_rfl
def Kn(a0:vz):Option (Int×Unit):=
 (HY a0).bind λy1=>br (!y1.1) (some (0,())) (br (a0.ends==0) (some (0,())) (some ((IntKind.wrap .i64 (a0.ends+3)),())))
def RS[dL] :=Fz 145 Tryz.f145 XA Ke (λx=>Kn x.1) [M5] [] (by kernel_rfl) λx=>by simp only[Kn,tm];kernel_rfl
def HG(a0:vz)(a1:Int):Option (Bool×Unit):=
 (HY a0).bind λy1=>br y1.1 ((Ff a1 0 999).bind λy2=>br y2.1 ((Kn a0).bind λy3=>some ((decide (a1≥y3.1)),())) (some (false,()))) (some (false,()))
def O0[dL] :=Fz 66 Tryz.f66 [.ty (.st .lease),.ty (.i .i64)] [.b] (λx=>HG x.1 x.2.1) [M5,FE,RS] [] (by kernel_rfl) λx=>by simp only[HG,tm];kernel_rfl
def JQ(a0:vz)(a1:Int)(a2:Int)(a3:Int)(a4:Int):Option (vz×Bool×Unit):=
 br (a0.epoch==a1) ((HY a0).bind λy1=>br (!y1.1) (some (a0,false,())) ((Ff a1 1 20).bind λy2=>br (!y2.1) (some (a0,false,())) ((Ff a2 0 4).bind λy3=>br (!y3.1) (some (a0,false,())) ((Ff a3 0 999).bind λy4=>br (!y4.1) (some (a0,false,())) ((Ff a4 1 50).bind λy5=>br (!y5.1) (some (a0,false,())) ((HG a0 a3).bind λy6=>br (!y6.1) (br (!(a0.holder==a2)) (some (a0,false,())) (br (a0.holder==a2) (some ((⟨a1,a2,(if a0.ends>(IntKind.wrap .i64 (a3+a4)) then a0.ends else (IntKind.wrap .i64 (a3+a4)))⟩:vz),true,())) (some ((⟨a1,a2,(IntKind.wrap .i64 (a3+a4))⟩:vz),true,())))) (br (a0.holder==a2) (some ((⟨a1,a2,(if a0.ends>(IntKind.wrap .i64 (a3+a4)) then a0.ends else (IntKind.wrap .i64 (a3+a4)))⟩:vz),true,())) (some ((⟨a1,a2,(IntKind.wrap .i64 (a3+a4))⟩:vz),true,()))))))))) ((HY a0).bind λy10=>br (!y10.1) (some (a0,false,())) ((Ff a1 1 20).bind λy11=>br (!y11.1) (some (a0,false,())) ((Ff a2 0 4).bind λy12=>br (!y12.1) (some (a0,false,())) ((Ff a3 0 999).bind λy13=>br (!y13.1) (some (a0,false,())) ((Ff a4 1 50).bind λy14=>br (!y14.1) (some (a0,false,())) ((HG a0 a3).bind λy15=>br (!y15.1) (br (!false) (some (a0,false,())) (some ((⟨a1,a2,(IntKind.wrap .i64 (a3+a4))⟩:vz),true,()))) (some ((⟨a1,a2,(IntKind.wrap .i64 (a3+a4))⟩:vz),true,()))))))))
def TG[dL] :=Fz 292 Tryz.f292 [.ty (.st .lease),.ty (.i .i64),.ty (.i .i64),.ty (.i .i64),.ty (.i .i64)] [.st .lease,.b] (λx=>JQ x.1 x.2.1 x.2.2.1 x.2.2.2.1 x.2.2.2.2.1) [M5,FE,O0] [] (by kernel_rfl) λx=>by simp only[JQ,tm];kernel_rfl
def IY(a0:qN)(a1:Int)(a2:Int):Option (qN×Int×Unit):=
 (Fw a0).bind λy1=>(JE a0 a1).bind λy2=>br (!(y2.1==0)) (some (y1.1,y2.1,())) (iteP (0<=a1) ((a0.servers[a1.toNat]?).bind λx3=>(Ga x3 a1).bind λy4=>br (!y4.1) (some (y1.1,3,())) (br (decide ((IntKind.wrap .i64 (a0.masterUp*2))<=3)) (some (y1.1,8,())) (iteP (0<=a1) ((a0.sides[a1.toNat]?).bind λx5=>br (!(x5==0)) (some (y1.1,8,())) (br (!(x3.config.epoch==(a0.master.configs.length:Int))) (some (y1.1,11,())) ((JQ a0.lease x3.config.epoch a1 a0.now a2).bind λy6=>br (!y6.2.1) (some (y1.1,7,())) (some ((⟨y1.1.now,y1.1.servers,y1.1.sides,y1.1.master,y1.1.masterUp,y6.1,y1.1.places⟩:qN),0,()))))) none))) none)
def P0[dL] :=Fz 271 Tryz.f271 SX NT (λx=>IY x.1 x.2.1 x.2.2.1) [FQ,QS,IJ,TG] [] (by kernel_rfl) λx=>by simp only[IY,tm];kernel_rfl
abbrev Pe:LX:=⟨⟨[Kd,Tm,NB],[JG],Iw,0,28⟩,[(.ext 0,⟨[Tm],[],Iw,0,28⟩)],[],[1,3,4],[3]⟩
def Io(s:WI×(MN×Unit)×List Int×Unit):Pe.R:=
 br (decide (s.1.2.2.1< (s.2.1.1.2.1.length:Int))) ((Fd (⟨s.2.1.1.1,s.2.1.1.2.1,s.2.1.1.2.2.1,(⟨s.2.1.1.2.2.2.1,s.2.1.1.2.2.2.2.1⟩:kB),s.2.1.1.2.2.2.2.2.1,(⟨s.2.1.1.2.2.2.2.2.2.1,s.2.1.1.2.2.2.2.2.2.2.1,s.2.1.1.2.2.2.2.2.2.2.2.1⟩:vz),s.2.1.1.2.2.2.2.2.2.2.2.2.1⟩:qN)).bind λy13=>br y13.1 (iteP (0<=s.1.2.2.1) ((s.2.1.1.2.1[s.1.2.2.1.toNat]?).bind λx14=>br x14.up (iteP ((s.2.2.1++([s.1.2.2.1]:List Int)).length*8<=2 ^ 40) (some (.inl (((),(),(IntKind.wrap .i64 (s.1.2.2.1+1)),()),s.2.1,(s.2.2.1++([s.1.2.2.1]:List Int)),()))) none) (some (.inl (((),(),(IntKind.wrap .i64 (s.1.2.2.1+1)),()),s.2)))) none) (some (.inr (((),()),(()),s.2.2)))) (some (.inr (((),()),(()),s.2.2)))
def O3:=md Io
def Tf[dL] :=H3 Tryz.f165 [0] Pe Io [Fg] [] (by kernel_rfl) λs=>by simp only[Io,tm];kernel_rfl
def KY(a0:qN):Option ((List Int)×Unit):=
 (O3 (((),(),0,()),((a0.now,a0.servers,a0.sides,a0.master.configs,a0.master.activated,a0.masterUp,a0.lease.epoch,a0.lease.holder,a0.lease.ends,a0.places,()),()),([]:List Int),())).bind λe16=>some e16.2.2
def UI[dL] :=Fz 165 Tryz.f165 SW LF (λx=>KY x.1) [] [Tf] (by kernel_rfl) λx=>by simp only[KY,tm];kernel_rfl
abbrev Ov:LX:=⟨⟨[Ng,Tm,NB],[],Iw,0,26⟩,[(.ext 0,⟨[Tm],[],Iw,0,26⟩)],[],[0,3,4],[3]⟩
def HP(s:Zl×Unit×List Int×Unit):Ov.R:=
 br (decide (s.1.2.2.1< (s.1.1.length:Int))) ((G8 s.1.1).bind λy4=>br y4.1 (iteP (0<=s.1.2.2.1) ((s.1.1[s.1.2.2.1.toNat]?).bind λx5=>br (x5==0) (iteP ((s.2.2.1++([s.1.2.2.1]:List Int)).length*8<=2 ^ 40) (some (.inl ((s.1.1,(),(IntKind.wrap .i64 (s.1.2.2.1+1)),()),(()),(s.2.2.1++([s.1.2.2.1]:List Int)),()))) none) (some (.inl ((s.1.1,(),(IntKind.wrap .i64 (s.1.2.2.1+1)),()),(()),s.2.2)))) none) (some (.inr (((),()),(()),s.2.2)))) (some (.inr (((),()),(()),s.2.2)))
def Of:=md HP
def So[dL] :=H3 Tryz.f166 [0] Ov HP [Ny] [] (by kernel_rfl) λs=>by simp only[HP,tm];kernel_rfl
def JS(a0:List Int):Option ((List Int)×Unit):=
 (Of ((a0,(),0,()),(()),([]:List Int),())).bind λe7=>some e7.2.2
def TK[dL] :=Fz 166 Tryz.f166 VG LF (λx=>JS x.1) [] [So] (by kernel_rfl) λx=>by simp only[JS,tm];kernel_rfl
def LZ(a0:qN):Option ((List Int)×Unit):=
 (KY a0).bind λy1=>(JS a0.sides).bind λy2=>(GU y1.1 y2.1).bind λy3=>some (y3.1,())
def Vw[dL] :=Fz 81 Tryz.f81 SW LF (λx=>LZ x.1) [UI,TK,Lb] [] (by kernel_rfl) λx=>by simp only[LZ,tm];kernel_rfl
def Fp(a0:kB):Option (om×Bool×Unit):=
 (Ha a0 a0.activated).bind λy1=>some (y1.1,y1.2.1,())
def GA[dL] :=Fz 78 Tryz.f78 WH WJ (λx=>Fp x.1) [Pn] [] (by kernel_rfl) λx=>by simp only[Fp,tm];kernel_rfl
abbrev Ms:LX:=⟨⟨[Ng,O4,Mf,MD],[],Iw,0,28⟩,[(.ext 0,⟨[Mf],[],Iw,0,28⟩)],[],[0,1,5,6],[5]⟩
def GI(s:ZQ×Unit×List Int×Unit):Ms.R:=
 br (decide (s.1.2.2.2.1< (s.1.1.length:Int))) (iteP (0<=s.1.2.2.2.1) ((s.1.1[s.1.2.2.2.1.toNat]?).bind λx5=>(FC s.1.2.1 x5).bind λy6=>br (!y6.1) (iteP (0<=s.1.2.2.2.1) ((s.1.1[s.1.2.2.2.1.toNat]?).bind λx7=>(HL s.2.2.1 x7).bind λy8=>some (.inl ((s.1.1,s.1.2.1,(),(IntKind.wrap .i64 (s.1.2.2.2.1+1)),()),(()),y8.1,()))) none) (some (.inl ((s.1.1,s.1.2.1,(),(IntKind.wrap .i64 (s.1.2.2.2.1+1)),()),(()),s.2.2)))) none) (some (.inr (((),()),(()),s.2.2)))
def Mb:=md GI
def PC[dL] :=H3 Tryz.f254 [0] Ms GI [GZ,Nz] [] (by kernel_rfl) λs=>by simp only[GI,tm];kernel_rfl
def FP(a0:List Int)(a1:List Int):Option ((List Int)×Unit):=
 (Mb ((a0,a1,(),0,()),(()),([]:List Int),())).bind λe10=>some e10.2.2
def Ku[dL] :=Fz 254 Tryz.f254 Ub LF (λx=>FP x.1 x.2.1) [] [PC] (by kernel_rfl) λx=>by simp only[FP,tm];kernel_rfl
abbrev QY:LX:=⟨⟨[R3,O4,Mf,MD],[],Iw,0,33⟩,[(.ext 0,⟨[Mf],[],Iw,0,33⟩)],[],[0,1,5,6],[5]⟩
def Mx(s: (List vB×List Int×Unit×Int×Unit)×Unit×List Int×Unit):QY.R:=
 br (decide (s.1.2.2.2.1< (s.1.2.1.length:Int))) ((FG s.1.1).bind λy5=>br y5.1 ((F2 s.1.2.1).bind λy6=>br y6.1 (iteP (0<=s.1.2.2.2.1) ((s.1.2.1[s.1.2.2.2.1.toNat]?).bind λx7=>iteP (0<=x7) ((s.1.1[x7.toNat]?).bind λx8=>(HL s.2.2.1 x8.rack).bind λy9=>some (.inl ((s.1.1,s.1.2.1,(),(IntKind.wrap .i64 (s.1.2.2.2.1+1)),()),(()),y9.1,()))) none) none) (some (.inr (((),()),(()),s.2.2)))) (some (.inr (((),()),(()),s.2.2)))) (some (.inr (((),()),(()),s.2.2)))
def UP:=md Mx
def UX[dL] :=H3 Tryz.f302 [0] QY Mx [K3,Lz,Nz] [] (by kernel_rfl) λs=>by simp only[Mx,tm];kernel_rfl
def MY(a0:List vB)(a1:List Int):Option ((List Int)×Unit):=
 (UP ((a0,a1,(),0,()),(()),([]:List Int),())).bind λe10=>some e10.2.2
def Wz[dL] :=Fz 302 Tryz.f302 [.ty (.ls (.st .place)),.ty (.ls (.i .i64))] LF (λx=>MY x.1 x.2.1) [] [UX] (by kernel_rfl) λx=>by simp only[MY,tm];kernel_rfl
def MX(a0:List vB)(a1:Int):Option (Bool×Unit):=
 (FG a0).bind λy1=>br y1.1 ((Ff a1 0 4).bind λy2=>br y2.1 (iteP (0<=a1) ((a0[a1.toNat]?).bind λx3=>iteP (0<=a1) ((a0[a1.toNat]?).bind λx4=>some ((decide (x3.load<x4.capacity)),())) none) none) (some (false,()))) (some (false,()))
def Wy[dL] :=Fz 303 Tryz.f303 [.ty (.ls (.st .place)),.ty (.i .i64)] [.b] (λx=>MX x.1 x.2.1) [K3,FE] [] (by kernel_rfl) λx=>by simp only[MX,tm];kernel_rfl
def L3(a0:List vB)(a1:List Int)(a2:Int)(a3:Int):Option (Bool×Unit):=
 iteP (0<=a2) ((a0[a2.toNat]?).bind λx1=>(FC a1 x1.rack).bind λy2=>iteP (0<=a3) ((a0[a3.toNat]?).bind λx3=>(FC a1 x3.rack).bind λy4=>br (!(y2.1==y4.1)) (some (y4.1,())) (iteP (0<=a2) ((a0[a2.toNat]?).bind λx5=>iteP (0<=a3) ((a0[a3.toNat]?).bind λx6=>some ((decide (x5.load<x6.load)),())) none) none)) none) none
def Vy[dL] :=Fz 304 Tryz.f304 [.ty (.ls (.st .place)),.ty (.ls (.i .i64)),.ty (.i .i64),.ty (.i .i64)] [.b] (λx=>L3 x.1 x.2.1 x.2.2.1 x.2.2.2.1) [GZ] [] (by kernel_rfl) λx=>by simp only[L3,tm];kernel_rfl
abbrev MR:LX:=⟨⟨[R3,O4,(2,.cl (.ro (.i .i64))),Mg,V8,(9,.cl (.int .i64))],[],Iw,0,46⟩,[(.ext 0,⟨[Mg],[],[],0,46⟩)],[],[0,1,2,7,8,9],[7]⟩
def KH(s: (List vB×List Int×List Int×Int×Unit×Int×Unit)×Unit×List Int×Unit):MR.R:=
 br (decide (s.1.2.2.2.2.2.1<5)) ((F2 s.1.2.1).bind λy8=>br y8.1 ((MX s.1.1 s.1.2.2.2.2.2.1).bind λy9=>let j14 (p13:Int):MR.R:=some (.inl ((s.1.1,s.1.2.1,s.1.2.2.1,p13,(),(IntKind.wrap .i64 (s.1.2.2.2.2.2.1+1)),()),(()),s.2.2));br (!y9.1) (j14 s.1.2.2.2.1) ((FC s.1.2.1 s.1.2.2.2.2.2.1).bind λy10=>br y10.1 (j14 s.1.2.2.2.1) ((FC s.1.2.2.1 s.1.2.2.2.2.2.1).bind λy11=>br y11.1 (j14 s.1.2.2.2.1) (br (decide (s.1.2.2.2.1<0)) (j14 s.1.2.2.2.2.2.1) ((L3 s.1.1 s.2.2.1 s.1.2.2.2.2.2.1 s.1.2.2.2.1).bind λy12=>br y12.1 (j14 s.1.2.2.2.2.2.1) (j14 s.1.2.2.2.1)))))) (some (.inr ((s.1.2.2.2.1,()),(()),(()))))) (some (.inr ((s.1.2.2.2.1,()),(()),(()))))
def SQ:=md KH
def Tb[dL] :=H3 Tryz.f294 [0] MR KH [Lz,Wy,GZ,Vy] [] (by kernel_rfl) λs=>by simp only[KH,tm];kernel_rfl
def JC(a0:List vB)(a1:List Int)(a2:List Int):Option (Int×Unit):=
 (MY a0 a1).bind λy1=>(SQ ((a0,a1,a2,(-1),(),0,()),(()),y1.1,())).bind λe15=>some e15.1
def QQ[dL] :=Fz 294 Tryz.f294 [.ty (.ls (.st .place)),.ty (.ls (.i .i64)),.ty (.ls (.i .i64))] Ke (λx=>JC x.1 x.2.1 x.2.2.1) [Wz] [Tb] (by kernel_rfl) λx=>by simp only[JC,tm];kernel_rfl
abbrev NR:LX:=⟨⟨[R3,NC,XH,(10,.cl (.own 1 (.i .i64)))],[],YL,0,52⟩,[(.ret,⟨[V8,XH],[],Iw,0,52⟩),(.ext 0,⟨[(8,.cl (.dead)),XH],[],Iw,0,52⟩)],[],[0,3,9,10],[8,9]⟩
def Jh(s: (List vB×Int×Unit×Unit×Unit)×Unit×List Int×List Int×Unit):NR.R:=
 br (decide ((s.2.2.1.length:Int)<s.1.2.1)) ((JC s.1.1 s.2.2.1 s.2.2.2.1).bind λy11=>br (decide (y11.1<0)) (some (.inr (.inl (((),(),()),(()),s.2.2.1,())))) ((HL s.2.2.1 y11.1).bind λy12=>some (.inl (s.1,(()),y12.1,s.2.2.2)))) (some (.inr (.inr (((),(),()),(()),s.2.2.1,()))))
def Rf:=md Jh
def Rr[dL] :=H3 Tryz.f293 [0] NR Jh [QQ,Nz] [] (by kernel_rfl) λs=>by simp only[Jh,tm];kernel_rfl
def I9(a0:List vB)(a1:List Int)(a2:List Int)(a3:Int):Option ((List Int)×Unit):=
 (GU a1 a2).bind λy1=>(FP ([0,1,2,3,4]:List Int) a2).bind λy2=>(FG a0).bind λy3=>br (!y3.1) (some (([]:List Int),())) ((F2 a1).bind λy4=>br (!y4.1) (some (([]:List Int),())) ((F2 a2).bind λy5=>br (!y5.1) (some (([]:List Int),())) ((Ff a3 0 5).bind λy6=>br (!y6.1) (some (([]:List Int),())) ((Rf ((a0,a3,(),(),()),(()),y1.1,y2.1,())).bind λe13=>Sum.elim (λe13_0=>some e13_0.2.2) (λe13_1=>some e13_1.2.2) e13))))
def SJ[dL] :=Fz 293 Tryz.f293 [.ty (.ls (.st .place)),.ty (.ls (.i .i64)),.ty (.ls (.i .i64)),.ty (.i .i64)] LF (λx=>I9 x.1 x.2.1 x.2.2.1 x.2.2.2.1) [Lb,Ku,K3,Lz,FE] [Rr] (by kernel_rfl) λx=>by simp only[I9,tm];kernel_rfl
abbrev Mn:LX:=⟨⟨[J6,P8,R5,OU,V8,(9,.cl (.ptr 2 0)),Zf,P9],[JG,Zw,Zx],ZA,0,132⟩,[(.ext 0,⟨[J6,P8,R5,OU,V8,(9,.cl (.ptr 2 0)),Zf],[JG,Zw,Zx],ZA,0,132⟩)],[],[1,2,3,6,8,9,11,12],[1,2,3,6,8,9,11]⟩
def JK(s: (Int×Int×Unit×Unit×Unit×Unit×Unit×Int×Unit)×(MN×Qx×Qx×Unit)×List Int×List Int×List Int×List Int×Unit):Mn.R:=
 br (decide (s.1.2.2.2.2.2.2.2.1< (s.2.2.2.2.1.length:Int))) (iteP (0<=s.1.2.2.2.2.2.2.2.1/\s.1.2.2.2.2.2.2.2.1< (s.2.2.2.2.1.length:Int)) ((s.2.2.2.2.1[s.1.2.2.2.2.2.2.2.1.toNat]?).bind λx27=>(FC s.2.2.1 x27).bind λy28=>let j33 (p32:List Int):Mn.R:=some (.inl ((s.1.1,s.1.2.1,(),(),(),(),(),(IntKind.wrap .i64 (s.1.2.2.2.2.2.2.2.1+1)),()),s.2.1,s.2.2.1,p32,s.2.2.2.2));br y28.1 (iteP (0<=s.1.2.2.2.2.2.2.2.1/\s.1.2.2.2.2.2.2.2.1< (s.2.2.2.2.1.length:Int)) ((s.2.2.2.2.1[s.1.2.2.2.2.2.2.2.1.toNat]?).bind λx29=>iteP (0<=x29) ((s.2.1.1.2.1[x29.toNat]?).bind λx30=>br (x30.config.epoch==s.2.1.2.2.1.1) (iteP (0<=s.1.2.2.2.2.2.2.2.1/\s.1.2.2.2.2.2.2.2.1< (s.2.2.2.2.1.length:Int)) ((s.2.2.2.2.1[s.1.2.2.2.2.2.2.2.1.toNat]?).bind λx31=>iteP ((s.2.2.2.1++([x31]:List Int)).length*8<=2 ^ 40) (j33 (s.2.2.2.1++([x31]:List Int))) none) none) (j33 s.2.2.2.1)) none) none) (j33 s.2.2.2.1)) none) (some (.inr ((s.1.1,s.1.2.1,(),(),(),(),(),()),s.2)))
def R1:=md JK
def Sr[dL] :=H3 Tryz.f272 [0] Mn JK [GZ] [] (by kernel_rfl) λs=>by simp only[JK,tm];kernel_rfl
def IX(a0:qN)(a1:Int)(a2:Int):Option (om×Bool×Unit):=
 (Fd a0).bind λy1=>br (!y1.1) (some ((⟨0,0,([]:List Int),([]:List Int)⟩:om),false,())) ((Ff a1 1 3).bind λy2=>br (!y2.1) (some ((⟨0,0,([]:List Int),([]:List Int)⟩:om),false,())) ((Ff a2 0 1).bind λy3=>br (!y3.1) (some ((⟨0,0,([]:List Int),([]:List Int)⟩:om),false,())) (br ((a0.master.configs.length:Int)==20) (some ((⟨0,0,([]:List Int),([]:List Int)⟩:om),false,())) ((LZ a0).bind λy4=>(Fp a0.master).bind λy5=>(R1 ((a1,a2,(),(),(),(),(),0,()),((a0.now,a0.servers,a0.sides,a0.master.configs,a0.master.activated,a0.masterUp,a0.lease.epoch,a0.lease.holder,a0.lease.ends,a0.places,()),(0,0,(),(),()),(y5.1.epoch,y5.1.primary,(),(),()),()),y4.1,([]:List Int),y5.1.replicas,y5.1.witnesses,())).bind λe34=>(I9 e34.2.1.1.2.2.2.2.2.2.2.2.2.1 e34.2.2.2.1 e34.2.2.1 e34.1.1).bind λy35=>br ((y35.1.length:Int)==0) (some ((⟨0,0,([]:List Int),([]:List Int)⟩:om),false,())) (iteP (0<=(0:Int)/\(0:Int)< (y35.1.length:Int)) ((y35.1[(0:Int).toNat]?).bind λx36=>(FC y35.1 e34.2.1.2.2.1.2.1).bind λy37=>let j43 (p39:Int):Option (om×Bool×Unit):=br (e34.1.2.1==1) ((FP ([0,1,2,3,4]:List Int) e34.2.2.1).bind λy40=>(JC e34.2.1.1.2.2.2.2.2.2.2.2.2.1 y35.1 y40.1).bind λy41=>br (decide (y41.1≥0)) (some ((⟨(IntKind.wrap .i64 ((e34.2.1.1.2.2.2.1.length:Int)+1)),p39,y35.1,([y41.1]:List Int)⟩:om),true,())) (some ((⟨(IntKind.wrap .i64 ((e34.2.1.1.2.2.2.1.length:Int)+1)),p39,y35.1,([]:List Int)⟩:om),true,()))) (some ((⟨(IntKind.wrap .i64 ((e34.2.1.1.2.2.2.1.length:Int)+1)),p39,y35.1,([]:List Int)⟩:om),true,()));br y37.1 ((It (⟨e34.2.1.2.2.1.1,e34.2.1.2.2.1.2.1,e34.2.2.2.2.1,e34.2.2.2.2.2.1⟩:om)).bind λy38=>br (!y38.1) (j43 e34.2.1.2.2.1.2.1) (j43 x36)) (j43 x36)) none)))))
def PZ[dL] :=Fz 272 Tryz.f272 SX WJ (λx=>IX x.1 x.2.1 x.2.2.1) [Fg,FE,Vw,GA,GZ,SJ,OM,Ku,QQ] [Sr] (by kernel_rfl) λx=>by simp only[IX,tm];kernel_rfl
def Hn(a0:kB)(a1:om):Option (kB×Bool×Unit):=
 (Ko a0).bind λy1=>(FK a0).bind λy2=>br (!y2.1) (some (y1.1,false,())) ((Fh a1).bind λy3=>br (!y3.1) (some (y1.1,false,())) (br (!(a1.epoch==(IntKind.wrap .i64 ((a0.configs.length:Int)+1)))) (some (y1.1,false,())) ((H0 a1).bind λy4=>iteP ((y1.1.configs++([y4.1]:List om)).length*64<=2 ^ 40) (some ((⟨(y1.1.configs++([y4.1]:List om)),y1.1.activated⟩:kB),true,())) none)))
def NK[dL] :=Fz 69 Tryz.f69 [.ty (.st .masterLog),.ty (.st .config)] [.st .masterLog,.b] (λx=>Hn x.1 x.2.1) [Qq,KP,Jm,Oa] [] (by kernel_rfl) λx=>by simp only[Hn,tm];kernel_rfl
def HH(a0:qN)(a1:om):Option (qN×Int×Unit):=
 (Fw a0).bind λy1=>(Fd a0).bind λy2=>br (!y2.1) (some (y1.1,1,())) (br (decide ((IntKind.wrap .i64 (a0.masterUp*2))<=3)) (some (y1.1,8,())) ((Hn a0.master a1).bind λy3=>br (!y3.2.1) (some (y1.1,1,())) (some ((⟨y1.1.now,y1.1.servers,y1.1.sides,y3.1,y1.1.masterUp,y1.1.lease,y1.1.places⟩:qN),0,()))))
def MI[dL] :=Fz 273 Tryz.f273 [.ty (.st .cluster),.ty (.st .config)] NT (λx=>HH x.1 x.2.1) [FQ,Fg,NK] [] (by kernel_rfl) λx=>by simp only[HH,tm];kernel_rfl
def Lt(a0:kB):Option (om×Bool×Unit):=
 (Ha a0 (a0.configs.length:Int)).bind λy1=>some (y1.1,y1.2.1,())
def TJ[dL] :=Fz 295 Tryz.f295 WH WJ (λx=>Lt x.1) [Pn] [] (by kernel_rfl) λx=>by simp only[Lt,tm];kernel_rfl
def Hx(a0:qQ)(a1:Int):Option (qQ×Bool×Unit):=
 (Ho a0).bind λy1=>(Ff a1 1 20).bind λy2=>br (!y2.1) (some (y1.1,false,())) (br (decide (a1<=a0.epoch)) (some (y1.1,false,())) (br (decide (a0.epoch<0)) (some (y1.1,false,())) (some ((⟨y1.1.up,y1.1.intact,y1.1.version,a1,y1.1.config,y1.1.first,y1.1.log,y1.1.commit,y1.1.learned⟩:qQ),true,()))))
def P1[dL] :=Fz 241 Tryz.f241 UR [.st .server,.b] (λx=>Hx x.1 x.2.1) [Qr,FE] [] (by kernel_rfl) λx=>by simp only[Hx,tm];kernel_rfl
abbrev Lf:LX:=⟨⟨[J6,P8,R5,OU,(7,.cl (.ptr 2 0)),Zg,V9],[JG,Nh,WL],YK,0,85⟩,[(.ext 0,⟨[(6,.cl (.ptr 0 0)),(7,.cl (.ptr 1 0))],[Nh,VJ],XY,0,85⟩)],[],[1,2,3,6,7,10,11],[6,7]⟩
def Ji(s: (Int×Int×Unit×Unit×Unit×Unit×Int×Unit)×(MN×ND×ND×Unit)×List Int×List qQ×List Int×List om×List vB×Unit):Lf.R:=
 br (decide (s.1.2.2.2.2.2.2.1< (s.2.2.1.length:Int))) (iteP (0<=s.1.2.2.2.2.2.2.1/\s.1.2.2.2.2.2.2.1< (s.2.2.1.length:Int)) ((s.2.2.1[s.1.2.2.2.2.2.2.1.toNat]?).bind λx36=>iteP (0<=x36) ((s.2.1.1.2.1[x36.toNat]?).bind λx37=>let j47 (p46:List qQ):Lf.R:=some (.inl ((s.1.1,s.1.2.1,(),(),(),(),(IntKind.wrap .i64 (s.1.2.2.2.2.2.2.1+1)),()),s.2.1,s.2.2.1,p46,s.2.2.2.2));br x37.up (iteP (0<=s.1.2.2.2.2.2.2.1/\s.1.2.2.2.2.2.2.1< (s.2.2.1.length:Int)) ((s.2.2.1[s.1.2.2.2.2.2.2.1.toNat]?).bind λx38=>(Gv s.2.1.1.2.2.1 s.1.1 x38).bind λy39=>br y39.1 (iteP (0<=s.1.2.2.2.2.2.2.1/\s.1.2.2.2.2.2.2.1< (s.2.2.1.length:Int)) ((s.2.2.1[s.1.2.2.2.2.2.2.1.toNat]?).bind λx40=>iteP (0<=s.1.2.2.2.2.2.2.1/\s.1.2.2.2.2.2.2.1< (s.2.2.1.length:Int)) ((s.2.2.1[s.1.2.2.2.2.2.2.1.toNat]?).bind λx41=>iteP (0<=x41) ((s.2.1.1.2.1[x41.toNat]?).bind λx42=>(Hx x42 s.1.2.1).bind λy43=>iteP (0<=x40/\x40< (s.2.2.2.1.length:Int)) ((s.2.2.2.1[x40.toNat]?).bind λ_=>j47 (s.2.2.2.1.set x40.toNat y43.1)) none) none) none) none) (j47 s.2.2.2.1)) none) (j47 s.2.2.2.1)) none) none) (some (.inr (((),(),()),s.2.1.2,s.2.2.2)))
def Ri:=md Ji
def Rs[dL] :=H3 Tryz.f296 [0] Lf Ji [Kt,P1] [] (by kernel_rfl) λs=>by simp only[Ji,tm];kernel_rfl
def Jb(a0:qN)(a1:Int)(a2:Int):Option (qN×Unit):=
 (Fw a0).bind λy1=>(Fp a0.master).bind λy2=>(Fd a0).bind λy3=>br (!y3.1) (some (y1.1,())) (br (!y2.2.1) (some (y1.1,())) ((Ff a2 1 (a0.master.configs.length:Int)).bind λy4=>br (!y4.1) (some (y1.1,())) ((Gi y2.1).bind λy5=>(Ri ((a1,a2,(),(),(),(),0,()),((a0.now,a0.servers,a0.sides,a0.master.configs,a0.master.activated,a0.masterUp,a0.lease.epoch,a0.lease.holder,a0.lease.ends,a0.places,()),(0,(),(),(),0,0,0,0,0,(),()),(y1.1.now,(),(),(),y1.1.master.activated,y1.1.masterUp,y1.1.lease.epoch,y1.1.lease.holder,y1.1.lease.ends,(),()),()),y5.1,y1.1.servers,y1.1.sides,y1.1.master.configs,y1.1.places,())).bind λe48=>some ((⟨e48.2.1.2.1.1,e48.2.2.1,e48.2.2.2.1,(⟨e48.2.2.2.2.1,e48.2.1.2.1.2.2.2.2.1⟩:kB),e48.2.1.2.1.2.2.2.2.2.1,(⟨e48.2.1.2.1.2.2.2.2.2.2.1,e48.2.1.2.1.2.2.2.2.2.2.2.1,e48.2.1.2.1.2.2.2.2.2.2.2.2.1⟩:vz),e48.2.2.2.2.2.1⟩:qN),()))))
def SM[dL] :=Fz 296 Tryz.f296 SX XS (λx=>Jb x.1 x.2.1 x.2.2.1) [FQ,GA,Fg,FE,IK] [Rs] (by kernel_rfl) λx=>by simp only[Jb,tm];kernel_rfl
abbrev Mr:LX:=⟨⟨[J6,Nf,Mf,OU,UT,Qa],[JG,WM],XX,0,74⟩,[(.ext 0,⟨[Mf],[],Iw,0,74⟩)],[],[1,2,5,6,7,8],[5]⟩
def Gp(s:XO×(MN×Qx×Unit)×List Int×List Int×List Int×Unit):Mr.R:=
 br (decide (s.1.2.2.2.2.2.1< (s.2.2.2.1.length:Int))) (br s.1.2.2.2.2.1 ((Fd (⟨s.2.1.1.1,s.2.1.1.2.1,s.2.1.1.2.2.1,(⟨s.2.1.1.2.2.2.1,s.2.1.1.2.2.2.2.1⟩:kB),s.2.1.1.2.2.2.2.2.1,(⟨s.2.1.1.2.2.2.2.2.2.1,s.2.1.1.2.2.2.2.2.2.2.1,s.2.1.1.2.2.2.2.2.2.2.2.1⟩:vz),s.2.1.1.2.2.2.2.2.2.2.2.2.1⟩:qN)).bind λy20=>br y20.1 ((Ff s.1.1 0 4).bind λy21=>br y21.1 (iteP (0<=s.1.2.2.2.2.2.1/\s.1.2.2.2.2.2.1< (s.2.2.2.1.length:Int)) ((s.2.2.2.1[s.1.2.2.2.2.2.1.toNat]?).bind λx22=>iteP (0<=x22) ((s.2.1.1.2.1[x22.toNat]?).bind λx23=>let j28 (p27:List Int):Mr.R:=some (.inl ((s.1.1,(),(),(),s.1.2.2.2.2.1,(IntKind.wrap .i64 (s.1.2.2.2.2.2.1+1)),()),s.2.1,p27,s.2.2.2));br x23.up (br (x23.config.epoch==s.2.1.2.1.1) (iteP (0<=s.1.2.2.2.2.2.1/\s.1.2.2.2.2.2.1< (s.2.2.2.1.length:Int)) ((s.2.2.2.1[s.1.2.2.2.2.2.1.toNat]?).bind λx24=>(Gv s.2.1.1.2.2.1 s.1.1 x24).bind λy25=>br y25.1 (iteP (0<=s.1.2.2.2.2.2.1/\s.1.2.2.2.2.2.1< (s.2.2.2.1.length:Int)) ((s.2.2.2.1[s.1.2.2.2.2.2.1.toNat]?).bind λx26=>iteP ((s.2.2.1++([x26]:List Int)).length*8<=2 ^ 40) (j28 (s.2.2.1++([x26]:List Int))) none) none) (j28 s.2.2.1)) none) (j28 s.2.2.1)) (j28 s.2.2.1)) none) none) (some (.inr (((),()),(()),s.2.2.1,())))) (some (.inr (((),()),(()),s.2.2.1,())))) (some (.inr (((),()),(()),s.2.2.1,())))) (some (.inr (((),()),(()),s.2.2.1,())))
def J4:=md Gp
def Ss[dL] :=H3 Tryz.f26 [0] Mr Gp [Fg,FE,Kt] [] (by kernel_rfl) λs=>by simp only[Gp,tm];kernel_rfl
def F4(a0:qN)(a1:Int):Option ((List Int)×Unit):=
 (Fp a0.master).bind λy1=>(J4 ((a1,(),(),(),y1.2.1,0,()),((a0.now,a0.servers,a0.sides,a0.master.configs,a0.master.activated,a0.masterUp,a0.lease.epoch,a0.lease.holder,a0.lease.ends,a0.places,()),(y1.1.epoch,y1.1.primary,(),(),()),()),([]:List Int),y1.1.replicas,y1.1.witnesses,())).bind λe29=>some e29.2.2
def P2[dL] :=Fz 26 Tryz.f26 LD LF (λx=>F4 x.1 x.2.1) [GA] [Ss] (by kernel_rfl) λx=>by simp only[F4,tm];kernel_rfl
abbrev Ot:LX:=⟨⟨[Nf,K6,(6,.cl (.own 0 (.i .i64))),Mg],[JG],Iw,0,44⟩,[(.ext 0,⟨[K6],[],[],0,44⟩)],[],[2,5,6,7],[5]⟩
def Gn(s:Zm×(MN×Unit)×List Int×Unit):Ot.R:=
 br (decide (s.1.2.2.2.1< (s.2.2.1.length:Int))) (br (decide (s.1.2.1<0)) (iteP (0<=s.1.2.2.2.1/\s.1.2.2.2.1< (s.2.2.1.length:Int)) ((s.2.2.1[s.1.2.2.2.1.toNat]?).bind λx15=>some (.inl (((),x15,(),(IntKind.wrap .i64 (s.1.2.2.2.1+1)),()),s.2))) none) (iteP (0<=s.1.2.2.2.1/\s.1.2.2.2.1< (s.2.2.1.length:Int)) ((s.2.2.1[s.1.2.2.2.1.toNat]?).bind λx16=>iteP (0<=x16) ((s.2.1.1.2.1[x16.toNat]?).bind λx17=>iteP (0<=s.1.2.1) ((s.2.1.1.2.1[s.1.2.1.toNat]?).bind λx18=>br (decide ((x17.log.length:Int)>(x18.log.length:Int))) (iteP (0<=s.1.2.2.2.1/\s.1.2.2.2.1< (s.2.2.1.length:Int)) ((s.2.2.1[s.1.2.2.2.1.toNat]?).bind λx19=>some (.inl (((),x19,(),(IntKind.wrap .i64 (s.1.2.2.2.1+1)),()),s.2))) none) (some (.inl (((),s.1.2.1,(),(IntKind.wrap .i64 (s.1.2.2.2.1+1)),()),s.2)))) none) none) none)) (some (.inr ((s.1.2.1,()),(()),(()))))
def L9:=md Gn
def Sk[dL] :=H3 Tryz.f28 [0] Ot Gn [] [] (by kernel_rfl) λs=>by simp only[Gn,tm];kernel_rfl
def F3(a0:qN)(a1:Int):Option (Int×Unit):=
 (F4 a0 a1).bind λy1=>(L9 (((),(-1),(),0,()),((a0.now,a0.servers,a0.sides,a0.master.configs,a0.master.activated,a0.masterUp,a0.lease.epoch,a0.lease.holder,a0.lease.ends,a0.places,()),()),y1.1,())).bind λe21=>some e21.1
def PX[dL] :=Fz 28 Tryz.f28 LD Ke (λx=>F3 x.1 x.2.1) [P2] [Sk] (by kernel_rfl) λx=>by simp only[F3,tm];kernel_rfl
def Kr(a0:qQ)(a1:Int):Option ((List sf)×Unit):=
 (GV a0.config a1).bind λy1=>(Gj a0.learned).bind λy2=>br (y1.1==1) ((FB a0).bind λy3=>br (decide ((y3.1.length:Int)>(y2.1.length:Int))) (some (y3.1,())) (some (y2.1,()))) (br (y1.1==2) ((FB a0).bind λy4=>br (decide ((y4.1.length:Int)>(y2.1.length:Int))) (some (y4.1,())) (some (y2.1,()))) (some (y2.1,())))
def WB[dL] :=Fz 103 Tryz.f103 UR SY (λx=>Kr x.1 x.2.1) [M7,Jc,Jl] [] (by kernel_rfl) λx=>by simp only[Kr,tm];kernel_rfl
def LJ(a0:Int)(a1:List sf):Option (Bool×Unit):=
 (Gk a1).bind λy1=>br y1.1 (br (decide ((a1.length:Int)<=3)) ((Ff a0 0 (IntKind.wrap .i64 (16-(a1.length:Int)))).bind λy2=>br y2.1 (br (a0==0) (some (true,())) (some (((a1.length:Int)==3),()))) (some (false,()))) (some (false,()))) (some (false,()))
def WA[dL] :=Fz 174 Tryz.f174 Y6 [.b] (λx=>LJ x.1 x.2.1) [LA,FE] [] (by kernel_rfl) λx=>by simp only[LJ,tm];kernel_rfl
abbrev Nk:LX:=⟨⟨[OT,XI,K6],[],[],0,30⟩,[(.ext 0,⟨[K6],[],[],0,30⟩)],[],[0,1,5],[5]⟩
def GH(s:Zn×Unit×Unit):Nk.R:=
 br (decide (s.1.2.2.1< (s.1.1.length:Int))) (br (decide (s.1.2.2.1< (s.1.2.1.length:Int))) (iteP (0<=s.1.2.2.1) ((s.1.1[s.1.2.2.1.toNat]?).bind λx4=>iteP (0<=s.1.2.2.1) ((s.1.2.1[s.1.2.2.1.toNat]?).bind λx5=>br ((x4.epoch==x5.epoch)&&((x4.op.client==x5.op.client)&&((x4.op.seq==x5.op.seq)&&((x4.op.kind==x5.op.kind)&&((x4.op.object==x5.op.object)&&((x4.op.old==x5.op.old)&&((x4.op.value==x5.op.value)&&true))))))) (some (.inl ((s.1.1,s.1.2.1,(IntKind.wrap .i64 (s.1.2.2.1+1)),()),(()),(())))) (some (.inr (s.1.2.2,(()),(()))))) none) none) (some (.inr (s.1.2.2,(()),(()))))) (some (.inr (s.1.2.2,(()),(()))))
def Ky:=md GH
def QB[dL] :=H3 Tryz.f175 [0] Nk GH [] [] (by kernel_rfl) λs=>by simp only[GH,tm];kernel_rfl
def G9(a0:List sf)(a1:List sf):Option (Int×Unit):=
 (Ky ((a0,a1,0,()),(()),(()))).bind λe6=>some e6.1
def RK[dL] :=Fz 175 Tryz.f175 V7 Ke (λx=>G9 x.1 x.2.1) [] [QB] (by kernel_rfl) λx=>by simp only[G9,tm];kernel_rfl
def Jr(a0:List sf)(a1:Int)(a2:List sf):Option ((List sf)×Bool×Unit):=
 (Gk a0).bind λy1=>br (!y1.1) (some (([]:List sf),false,())) ((LJ a1 a2).bind λy2=>br (!y2.1) (some (([]:List sf),false,())) (br (decide (a1>(a0.length:Int))) (some (([]:List sf),false,())) (iteP (0<=a1/\a1<=(a0.length:Int)/\(a0.length:Int)<=(a0.length:Int)) ((G9 ((a0.drop a1.toNat).take ((a0.length:Int).toNat-a1.toNat)) a2).bind λy3=>br (decide (y3.1< (if (a2.length:Int)< (IntKind.wrap .i64 ((a0.length:Int)-a1)) then (a2.length:Int) else (IntKind.wrap .i64 ((a0.length:Int)-a1))))) (some (([]:List sf),false,())) ((Gj a0).bind λy4=>iteP (0<=y3.1/\y3.1<=(a2.length:Int)/\(a2.length:Int)<=(a2.length:Int)) (iteP ((y4.1++((a2.drop y3.1.toNat).take ((a2.length:Int).toNat-y3.1.toNat))).length*56<=2 ^ 40) ((Gk (y4.1++((a2.drop y3.1.toNat).take ((a2.length:Int).toNat-y3.1.toNat)))).bind λy5=>br (!y5.1) (some (([]:List sf),false,())) (some ((y4.1++((a2.drop y3.1.toNat).take ((a2.length:Int).toNat-y3.1.toNat))),true,()))) none) none)) none)))
def Vo[dL] :=Fz 102 Tryz.f102 Y7 WK (λx=>Jr x.1 x.2.1 x.2.2.1) [LA,WA,RK,Jc] [] (by kernel_rfl) λx=>by simp only[Jr,tm];kernel_rfl
abbrev Lh:LX:=⟨⟨[J6,Nf,Tn,UT,XJ,O6,UU,(11,.cl (.ptr 2 0)),P9],[JG,WM,XU],WN,0,121⟩,[(.ext 2,⟨[J6,Nf,Tn,UT,XJ,O6,UU],[JG,WM],WN,0,121⟩)],[],[1,2,6,7,8,9,10,11,12],[1,2,6,7,8,9,10]⟩
def GS(s: (Int×Unit×Unit×Bool×Unit×Bool×Int×Unit×Int×Unit)×(MN×Qx×XP×Unit)×List sf×List Int×List Int×Unit):Lh.R:=
 br (decide (s.1.2.2.2.2.2.2.2.2.1<5)) (iteP (0<=s.1.2.2.2.2.2.2.2.2.1) ((s.2.1.1.2.1[s.1.2.2.2.2.2.2.2.2.1.toNat]?).bind λx59=>let j66 (p64:List sf) (p65:Bool):Lh.R:=some (.inl ((s.1.1,(),(),p65,(),s.1.2.2.2.2.2.1,s.1.2.2.2.2.2.2.1,(),(IntKind.wrap .i64 (s.1.2.2.2.2.2.2.2.2.1+1)),()),s.2.1,p64,s.2.2.2));br (!x59.up) (j66 s.2.2.1 s.1.2.2.2.1) ((Gv s.2.1.1.2.2.1 s.1.1 s.1.2.2.2.2.2.2.2.2.1).bind λy60=>br (!y60.1) (j66 s.2.2.1 s.1.2.2.2.1) (iteP (0<=s.1.2.2.2.2.2.2.2.2.1) ((s.2.1.1.2.1[s.1.2.2.2.2.2.2.2.2.1.toNat]?).bind λx61=>(Kr x61 s.1.2.2.2.2.2.2.2.2.1).bind λy62=>(Jr y62.1 s.2.1.2.2.1.2.2.2.2.2.2.2.2.1 s.2.1.2.2.1.2.2.2.2.2.2.2.2.2.1).bind λy63=>br y63.2.1 (br (!s.1.2.2.2.1) (j66 y63.1 true) (br (decide ((y63.1.length:Int)>(s.2.2.1.length:Int))) (j66 y63.1 true) (j66 s.2.2.1 s.1.2.2.2.1))) (j66 s.2.2.1 s.1.2.2.2.1)) none))) none) (some (.inr ((s.1.1,(),(),s.1.2.2.2.1,(),s.1.2.2.2.2.2.1,s.1.2.2.2.2.2.2.1,()),(s.2.1.1,s.2.1.2.1,()),s.2.2)))
def Ld:=md GS
def Rt[dL] :=H3 Tryz.f32 [0,0] Lh GS [Kt,WB,Vo] [] (by kernel_rfl) λs=>by simp only[GS,tm];kernel_rfl
abbrev Ox:LX:=⟨⟨[J6,Nf,Tn,UT,XJ,O6,UU],[JG,WM],WN,0,121⟩,[(.ext 0,⟨[Tn,UT],[],YM,0,121⟩)],[],[1,2,6,7,8,9,10],[6,7]⟩
def Gq(s: (Int×Unit×Unit×Bool×Unit×Bool×Int×Unit)×(MN×Qx×Unit)×List sf×List Int×List Int×Unit):Ox.R:=
 br (decide (s.1.2.2.2.2.2.2.1< (s.2.2.2.2.1.length:Int))) (br s.1.2.2.2.2.2.1 ((Fd (⟨s.2.1.1.1,s.2.1.1.2.1,s.2.1.1.2.2.1,(⟨s.2.1.1.2.2.2.1,s.2.1.1.2.2.2.2.1⟩:kB),s.2.1.1.2.2.2.2.2.1,(⟨s.2.1.1.2.2.2.2.2.2.1,s.2.1.1.2.2.2.2.2.2.2.1,s.2.1.1.2.2.2.2.2.2.2.2.1⟩:vz),s.2.1.1.2.2.2.2.2.2.2.2.2.1⟩:qN)).bind λy21=>br y21.1 ((Ff s.1.1 0 4).bind λy22=>br y22.1 (iteP (0<=s.1.2.2.2.2.2.2.1/\s.1.2.2.2.2.2.2.1< (s.2.2.2.2.1.length:Int)) ((s.2.2.2.2.1[s.1.2.2.2.2.2.2.1.toNat]?).bind λx23=>iteP (0<=x23) ((s.2.1.1.2.1[x23.toNat]?).bind λx24=>br (!x24.up) (some (.inl ((s.1.1,(),(),s.1.2.2.2.1,(),s.1.2.2.2.2.2.1,(IntKind.wrap .i64 (s.1.2.2.2.2.2.2.1+1)),()),s.2))) (br (!(x24.config.epoch==s.2.1.2.1.1)) (some (.inl ((s.1.1,(),(),s.1.2.2.2.1,(),s.1.2.2.2.2.2.1,(IntKind.wrap .i64 (s.1.2.2.2.2.2.2.1+1)),()),s.2))) (iteP (0<=s.1.2.2.2.2.2.2.1/\s.1.2.2.2.2.2.2.1< (s.2.2.2.2.1.length:Int)) ((s.2.2.2.2.1[s.1.2.2.2.2.2.2.1.toNat]?).bind λx25=>(Gv s.2.1.1.2.2.1 s.1.1 x25).bind λy26=>br (!y26.1) (some (.inl ((s.1.1,(),(),s.1.2.2.2.1,(),s.1.2.2.2.2.2.1,(IntKind.wrap .i64 (s.1.2.2.2.2.2.2.1+1)),()),s.2))) ((Ld ((s.1.1,(),(),s.1.2.2.2.1,(),s.1.2.2.2.2.2.1,s.1.2.2.2.2.2.2.1,(),0,()),(s.2.1.1,s.2.1.2.1,(x24.up,x24.intact,x24.version,x24.epoch,x24.config.epoch,x24.config.primary,x24.config.replicas,x24.config.witnesses,x24.first,x24.log,x24.commit,x24.learned,()),()),s.2.2)).bind λe67=>some (.inl ((e67.1.1,(),(),e67.1.2.2.2.1,(),e67.1.2.2.2.2.2.1,(IntKind.wrap .i64 (e67.1.2.2.2.2.2.2.1+1)),()),e67.2)))) none))) none) none) (some (.inr (((),s.1.2.2.2.1,()),(()),s.2.2.1,())))) (some (.inr (((),s.1.2.2.2.1,()),(()),s.2.2.1,())))) (some (.inr (((),s.1.2.2.2.1,()),(()),s.2.2.1,())))) (some (.inr (((),s.1.2.2.2.1,()),(()),s.2.2.1,())))
def J5:=md Gq
def Su[dL] :=H3 Tryz.f32 [0] Ox Gq [Fg,FE,Kt] [Rt] (by kernel_rfl) λs=>by simp only[Gq,tm];kernel_rfl
def Gd(a0:qN)(a1:Int):Option ((List sf)×Bool×Unit):=
 (Fp a0.master).bind λy1=>(J5 ((a1,(),(),false,(),y1.2.1,0,()),((a0.now,a0.servers,a0.sides,a0.master.configs,a0.master.activated,a0.masterUp,a0.lease.epoch,a0.lease.holder,a0.lease.ends,a0.places,()),(y1.1.epoch,y1.1.primary,(),(),()),()),([]:List sf),y1.1.replicas,y1.1.witnesses,())).bind λe87=>some (e87.2.2.1,e87.1.2)
def P3[dL] :=Fz 32 Tryz.f32 LD WK (λx=>Gd x.1 x.2.1) [GA] [Su] (by kernel_rfl) λx=>by simp only[Gd,tm];kernel_rfl
def Gz(a0:qN)(a1:Int):Option ((List sf)×Bool×Unit):=
 (Fd a0).bind λy1=>br (!y1.1) (some (([]:List sf),false,())) ((Ff a1 0 4).bind λy2=>br (!y2.1) (some (([]:List sf),false,())) (br (a0.master.activated==0) (some (([]:List sf),true,())) ((F3 a0 a1).bind λy3=>br (decide (y3.1≥0)) (iteP (0<=y3.1) ((a0.servers[y3.1.toNat]?).bind λx4=>(Gj x4.log).bind λy5=>some (y5.1,true,())) none) ((Gd a0 a1).bind λy6=>some (y6.1,y6.2.1,())))))
def QR[dL] :=Fz 22 Tryz.f22 LD WK (λx=>Gz x.1 x.2.1) [Fg,FE,PX,Jc,P3] [] (by kernel_rfl) λx=>by simp only[Gz,tm];kernel_rfl
abbrev Np:LX:=⟨⟨[OT,NC],[],[],0,16⟩,[(.ret,⟨[MC],[],[],0,16⟩),(.ext 0,⟨[OS],[],[],0,16⟩)],[],[0,3],[2]⟩
def IV(s:Zj×Unit×Unit):Np.R:=
 br (decide (s.1.2.1< (s.1.1.length:Int))) (iteP (0<=s.1.2.1) ((s.1.1[s.1.2.1.toNat]?).bind λx3=>(Ir x3.op).bind λy4=>br y4.1 (some (.inr (.inl ((true,()),(()),(()))))) (some (.inl ((s.1.1,(IntKind.wrap .i64 (s.1.2.1+1)),()),(()),(()))))) none) (some (.inr (.inr (((),()),(()),(())))))
def Qv:=md IV
def QF[dL] :=H3 Tryz.f146 [0] Np IV [OZ] [] (by kernel_rfl) λs=>by simp only[IV,tm];kernel_rfl
def Hb(a0:List sf):Option (Bool×Unit):=
 (Qv ((a0,0,()),(()),(()))).bind λe5=>Sum.elim (λe5_0=>some e5_0.1) (λ_=>some (false,())) e5
def L6[dL] :=Fz 146 Tryz.f146 Rj [.b] (λx=>Hb x.1) [] [QF] (by kernel_rfl) λx=>by simp only[Hb,tm];kernel_rfl
def Hm(a0:qQ)(a1:om)(a2:Int)(a3:List sf):Option (qQ×Bool×Unit):=
 (GV a1 a2).bind λy1=>br (y1.1==0) ((Ho a0).bind λy2=>some (y2.1,false,())) ((Gk a3).bind λy3=>br (!y3.1) ((Ho a0).bind λy4=>some (y4.1,false,())) ((Ff a0.version 1 2).bind λy5=>br (!y5.1) ((Ho a0).bind λy6=>some (y6.1,false,())) ((Ff a0.epoch 0 a1.epoch).bind λy7=>br (!y7.1) ((Ho a0).bind λy8=>some (y8.1,false,())) ((JD a3).bind λy9=>br (decide (y9.1>a1.epoch)) ((Ho a0).bind λy10=>some (y10.1,false,())) (let j18:Option (qQ×Bool×Unit):=(H0 a1).bind λy13=>(Gj a3).bind λy14=>br (y1.1==3) (iteP (0<=(if (IntKind.wrap .i64 ((a3.length:Int)-3))>0 then (IntKind.wrap .i64 ((a3.length:Int)-3)) else 0)/\(if (IntKind.wrap .i64 ((a3.length:Int)-3))>0 then (IntKind.wrap .i64 ((a3.length:Int)-3)) else 0)<=(a3.length:Int)/\(a3.length:Int)<=(a3.length:Int)) ((Gj ((a3.drop (if (IntKind.wrap .i64 ((a3.length:Int)-3))>0 then (IntKind.wrap .i64 ((a3.length:Int)-3)) else 0).toNat).take ((a3.length:Int).toNat-(if (IntKind.wrap .i64 ((a3.length:Int)-3))>0 then (IntKind.wrap .i64 ((a3.length:Int)-3)) else 0).toNat))).bind λy15=>some ((⟨a0.up,true,a0.version,a1.epoch,y13.1,(if (IntKind.wrap .i64 ((a3.length:Int)-3))>0 then (IntKind.wrap .i64 ((a3.length:Int)-3)) else 0),y15.1,(a3.length:Int),([]:List sf)⟩:qQ),true,())) none) (some ((⟨a0.up,true,a0.version,a1.epoch,y13.1,0,y14.1,(a3.length:Int),([]:List sf)⟩:qQ),true,()));br (a0.version==1) ((Hb a3).bind λy11=>br y11.1 ((Ho a0).bind λy12=>some (y12.1,false,())) (j18)) (j18))))))
def NI[dL] :=Fz 71 Tryz.f71 [.ty (.st .server),.ty (.st .config),.ty (.i .i64),.ty (.ls (.st .entry))] [.st .server,.b] (λx=>Hm x.1 x.2.1 x.2.2.1 x.2.2.2.1) [M7,Qr,LA,FE,Qs,L6,Oa,Jc] [] (by kernel_rfl) λx=>by simp only[Hm,tm];kernel_rfl
def G5(a0:kB)(a1:Int):Option (kB×Bool×Unit):=
 (Ko a0).bind λy1=>(FK a0).bind λy2=>br (!y2.1) (some (y1.1,false,())) (br (!(a1==(a0.configs.length:Int))) (some (y1.1,false,())) (br (decide (a1<=a0.activated)) (some (y1.1,false,())) (some ((⟨y1.1.configs,a1⟩:kB),true,()))))
def M4[dL] :=Fz 70 Tryz.f70 XB [.st .masterLog,.b] (λx=>G5 x.1 x.2.1) [Qq,KP] [] (by kernel_rfl) λx=>by simp only[G5,tm];kernel_rfl
abbrev O7:LX:=⟨⟨[Kd,Og,QW,QX,R6,R7,UU],[JG,Nh,Ud,VK],VL,0,180⟩,[(.ret,⟨[Kd,Og,NC,QW,QX,R6,R7],[JG,Ud,Ud,VK],VL,0,180⟩),(.ext 1,⟨[Kd,Og,(3,.cl (.dead)),QW,QX,R6,R7],[JG,Nh,Ud,VK],VL,0,180⟩)],[],[1,2,4,5,7,9,10],[1,2,3,4,5,7,9]⟩
def KC(s:XQ×(MN×ND×ND×Qx×Unit)×List sf×List Int×List qQ×List Int×List om×List vB×List Int×List Int×Unit):O7.R:=
 br (decide (s.1.2.2.2.2.2.2.1< (s.2.2.2.1.length:Int))) (iteP (0<=s.1.2.2.2.2.2.2.1/\s.1.2.2.2.2.2.2.1< (s.2.2.2.1.length:Int)) ((s.2.2.2.1[s.1.2.2.2.2.2.2.1.toNat]?).bind λx43=>iteP (0<=x43) ((s.2.1.1.2.1[x43.toNat]?).bind λx44=>br (!x44.up) (some (.inr (.inl (((),(),10,(),(),(),(),()),(s.2.1.1,s.2.1.2.2.1,s.2.1.2.2),s.2.2)))) (iteP (0<=s.1.2.2.2.2.2.2.1/\s.1.2.2.2.2.2.2.1< (s.2.2.2.1.length:Int)) ((s.2.2.2.1[s.1.2.2.2.2.2.2.1.toNat]?).bind λx45=>iteP (0<=x45) ((s.2.1.1.2.2.1[x45.toNat]?).bind λx46=>br (!(x46==0)) (some (.inr (.inl (((),(),10,(),(),(),(),()),(s.2.1.1,s.2.1.2.2.1,s.2.1.2.2),s.2.2)))) (some (.inl (((),(),(),(),(),(),(IntKind.wrap .i64 (s.1.2.2.2.2.2.2.1+1)),()),s.2)))) none) none)) none) none) (some (.inr (.inr (((),(),(),(),(),(),(),()),s.2))))
def SN:=md KC
def SZ[dL] :=H3 Tryz.f274 [0] O7 KC [] [] (by kernel_rfl) λs=>by simp only[KC,tm];kernel_rfl
abbrev MO:LX:=⟨⟨[Kd,Og,QW,QX,R6,R7,V9],[JG,Nh,Ud,VK],VL,0,180⟩,[(.ret,⟨[Kd,Og,NC,QW,QX,R6,R7],[JG,Ud,Ud,VK],VL,0,180⟩),(.ext 3,⟨[Kd,Og,(3,.cl (.dead)),QW,QX,R6,R7],[JG,Nh,Ud,VK],VL,0,180⟩)],[],[1,2,4,5,7,9,11],[1,2,3,4,5,7,9]⟩
def KD(s:XQ×(MN×ND×ND×Qx×Unit)×List sf×List Int×List qQ×List Int×List om×List vB×List Int×List Int×Unit):MO.R:=
 br (decide (s.1.2.2.2.2.2.2.1< (s.2.2.2.1.length:Int))) (iteP (0<=s.1.2.2.2.2.2.2.1/\s.1.2.2.2.2.2.2.1< (s.2.2.2.1.length:Int)) ((s.2.2.2.1[s.1.2.2.2.2.2.2.1.toNat]?).bind λx81=>iteP (0<=x81) ((s.2.1.1.2.1[x81.toNat]?).bind λx82=>let j84:MO.R:=some (.inl (((),(),(),(),(),(),(IntKind.wrap .i64 (s.1.2.2.2.2.2.2.1+1)),()),s.2));br (x82.version==1) ((Hb s.2.2.1).bind λy83=>br y83.1 (some (.inr (.inl (((),(),6,(),(),(),(),()),(s.2.1.1,s.2.1.2.2.1,s.2.1.2.2),s.2.2)))) (j84)) (j84)) none) none) (some (.inr (.inr (((),(),(),(),(),(),(),()),s.2))))
def O1:=md KD
def S4[dL] :=H3 Tryz.f274 [1] MO KD [L6] [] (by kernel_rfl) λs=>by simp only[KD,tm];kernel_rfl
abbrev O8:LX:=⟨⟨[Kd,Og,QW,QX,R6,R7,P9],[JG,Nh,Ud,VK],VL,0,180⟩,[(.ext 5,⟨[Kd,Og,QW,QX],[JG,Nh,VJ,[.int .i64,.int .i64,.own 4 (.i .i64),.own 5 (.i .i64)]],[.st .server,.i .i64,.st .config,.st .place,.i .i64,.i .i64],0,180⟩)],[],[1,2,4,5,7,9,12],[1,2,4,5]⟩
def KE(s:XQ×(MN×ND×ND×Qx×Unit)×List sf×List Int×List qQ×List Int×List om×List vB×List Int×List Int×Unit):O8.R:=
 br (decide (s.1.2.2.2.2.2.2.1< (s.2.2.2.1.length:Int))) (iteP (0<=s.1.2.2.2.2.2.2.1/\s.1.2.2.2.2.2.2.1< (s.2.2.2.1.length:Int)) ((s.2.2.2.1[s.1.2.2.2.2.2.2.1.toNat]?).bind λx119=>iteP (0<=s.1.2.2.2.2.2.2.1/\s.1.2.2.2.2.2.2.1< (s.2.2.2.1.length:Int)) ((s.2.2.2.1[s.1.2.2.2.2.2.2.1.toNat]?).bind λx120=>iteP (0<=x120/\x120< (s.2.2.2.2.1.length:Int)) ((s.2.2.2.2.1[x120.toNat]?).bind λx121=>iteP (0<=s.1.2.2.2.2.2.2.1/\s.1.2.2.2.2.2.2.1< (s.2.2.2.1.length:Int)) ((s.2.2.2.1[s.1.2.2.2.2.2.2.1.toNat]?).bind λx122=>(s.2.2.2.2.1[x120.toNat]?).bind λx123=>iteP (0+x121.config.replicas.length<=x123.config.replicas.length) ((s.2.2.2.2.1[x120.toNat]?).bind λx124=>iteP (0+x121.config.witnesses.length<=x124.config.witnesses.length) ((s.2.2.2.2.1[x120.toNat]?).bind λx125=>iteP (0+x121.log.length<=x125.log.length) ((s.2.2.2.2.1[x120.toNat]?).bind λx126=>iteP (0+x121.learned.length<=x126.learned.length) ((Hm (⟨x121.up,x121.intact,x121.version,x121.epoch,(⟨x121.config.epoch,x121.config.primary,((x123.config.replicas.drop 0).take x121.config.replicas.length),((x124.config.witnesses.drop 0).take x121.config.witnesses.length)⟩:om),x121.first,((x125.log.drop 0).take x121.log.length),x121.commit,((x126.learned.drop 0).take x121.learned.length)⟩:qQ) (⟨s.2.1.2.2.2.1.1,s.2.1.2.2.2.1.2.1,s.2.2.2.2.2.2.2.2.1,s.2.2.2.2.2.2.2.2.2.1⟩:om) x122 s.2.2.1).bind λy127=>iteP (0<=x119/\x119< (s.2.2.2.2.1.length:Int)) ((s.2.2.2.2.1[x119.toNat]?).bind λ_=>some (.inl (((),(),(),(),(),(),(IntKind.wrap .i64 (s.1.2.2.2.2.2.2.1+1)),()),s.2.1,s.2.2.1,s.2.2.2.1,(s.2.2.2.2.1.set x119.toNat y127.1),s.2.2.2.2.2))) none) none) none) none) none) none) none) none) none) (some (.inr (((),(),(),(),()),s.2.1,s.2.2.2.2)))
def O2:=md KE
def S6[dL] :=H3 Tryz.f274 [2] O8 KE [NI] [] (by kernel_rfl) λs=>by simp only[KE,tm];kernel_rfl
def Jq(a0:qN):Option (qN×Int×Unit):=
 (Fw a0).bind λy1=>(Lt a0.master).bind λy2=>(Fd a0).bind λy3=>br (!y3.1) (some (y1.1,1,())) (br (!y2.2.1) (some (y1.1,1,())) (br (y2.1.epoch==a0.master.activated) (some (y1.1,1,())) (br (decide ((IntKind.wrap .i64 (a0.masterUp*2))<=3)) (some (y1.1,8,())) (iteP (0<=y2.1.primary) ((a0.servers[y2.1.primary.toNat]?).bind λx4=>br (!x4.up) (some (y1.1,2,())) (iteP (0<=y2.1.primary) ((a0.sides[y2.1.primary.toNat]?).bind λx5=>br (!(x5==0)) (some (y1.1,10,())) ((HG a0.lease a0.now).bind λy6=>br (!y6.1) (some (y1.1,7,())) ((Jb a0 y2.1.primary y2.1.epoch).bind λy7=>(Gz a0 y2.1.primary).bind λy8=>br (!y8.2.1) (some (y7.1,9,())) ((Gi y2.1).bind λy9=>(SN (((),(),(),(),(),(),0,()),((a0.now,a0.servers,a0.sides,a0.master.configs,a0.master.activated,a0.masterUp,a0.lease.epoch,a0.lease.holder,a0.lease.ends,a0.places,()),(0,(),(),(),0,0,0,0,0,(),()),(y7.1.now,(),(),(),y7.1.master.activated,y7.1.masterUp,y7.1.lease.epoch,y7.1.lease.holder,y7.1.lease.ends,(),()),(y2.1.epoch,y2.1.primary,(),(),()),()),y8.1,y9.1,y7.1.servers,y7.1.sides,y7.1.master.configs,y7.1.places,y2.1.replicas,y2.1.witnesses,())).bind λe47=>Sum.elim (λe47_0=>some ((⟨e47_0.2.1.2.1.1,e47_0.2.2.2.2.1,e47_0.2.2.2.2.2.1,(⟨e47_0.2.2.2.2.2.2.1,e47_0.2.1.2.1.2.2.2.2.1⟩:kB),e47_0.2.1.2.1.2.2.2.2.2.1,(⟨e47_0.2.1.2.1.2.2.2.2.2.2.1,e47_0.2.1.2.1.2.2.2.2.2.2.2.1,e47_0.2.1.2.1.2.2.2.2.2.2.2.2.1⟩:vz),e47_0.2.2.2.2.2.2.2.1⟩:qN),e47_0.1.2.2.1,())) (λe47_1=>(O1 (((),(),(),(),(),(),0,()),e47_1.2)).bind λe85=>Sum.elim (λe85_0=>some ((⟨e85_0.2.1.2.1.1,e85_0.2.2.2.2.1,e85_0.2.2.2.2.2.1,(⟨e85_0.2.2.2.2.2.2.1,e85_0.2.1.2.1.2.2.2.2.1⟩:kB),e85_0.2.1.2.1.2.2.2.2.2.1,(⟨e85_0.2.1.2.1.2.2.2.2.2.2.1,e85_0.2.1.2.1.2.2.2.2.2.2.2.1,e85_0.2.1.2.1.2.2.2.2.2.2.2.2.1⟩:vz),e85_0.2.2.2.2.2.2.2.1⟩:qN),e85_0.1.2.2.1,())) (λe85_1=>(O2 (((),(),(),(),(),(),0,()),e85_1.2)).bind λe130=>(G5 (⟨e130.2.1.1.2.2.2.1,e130.2.1.1.2.2.2.2.1⟩:kB) e130.2.1.2.2.2.1.1).bind λy131=>some ((⟨e130.2.1.2.2.1.1,e130.2.2.1,e130.2.2.2.1,y131.1,e130.2.1.2.2.1.2.2.2.2.2.1,(⟨0,0,0⟩:vz),e130.2.2.2.2.2.1⟩:qN),0,())) e85) e47)))) none)) none))))
def Pm[dL] :=Fz 274 Tryz.f274 SW NT (λx=>Jq x.1) [FQ,TJ,Fg,O0,SM,QR,IK,M4] [SZ,S4,S6] (by kernel_rfl) λx=>by simp only[Jq,tm];kernel_rfl
def Hp(a0:qN)(a1:Int):Option (Bool×Unit):=
 (Fd a0).bind λy1=>br y1.1 ((Ff a1 0 4).bind λy2=>some (y2.1,())) (some (false,()))
def M8[dL] :=Fz 198 Tryz.f198 LD [.b] (λx=>Hp x.1 x.2.1) [Fg,FE] [] (by kernel_rfl) λx=>by simp only[Hp,tm];kernel_rfl
def I7(a0:qN)(a1:Int):Option (qN×Int×Unit):=
 (Fw a0).bind λy1=>(Hp a0 a1).bind λy2=>br (!y2.1) (some (y1.1,1,())) (iteP (0<=a1) ((a0.servers[a1.toNat]?).bind λx3=>br (!x3.up) (some (y1.1,2,())) (iteP (0<=a1/\a1< (y1.1.servers.length:Int)) ((y1.1.servers[a1.toNat]?).bind λx4=>some ((⟨y1.1.now,(y1.1.servers.set a1.toNat (⟨false,x4.intact,x4.version,x4.epoch,x4.config,x4.first,x4.log,x4.commit,x4.learned⟩:qQ)),y1.1.sides,y1.1.master,y1.1.masterUp,y1.1.lease,y1.1.places⟩:qN),0,())) none)) none)
def SG[dL] :=Fz 275 Tryz.f275 LD NT (λx=>I7 x.1 x.2.1) [FQ,M8] [] (by kernel_rfl) λx=>by simp only[I7,tm];kernel_rfl
def Ih(a0:qN)(a1:Int):Option (qN×Int×Unit):=
 (Fw a0).bind λy1=>(Hp a0 a1).bind λy2=>br (!y2.1) (some (y1.1,1,())) (iteP (0<=a1) ((a0.servers[a1.toNat]?).bind λx3=>br x3.up (some (y1.1,1,())) (iteP (0<=a1/\a1< (y1.1.servers.length:Int)) ((y1.1.servers[a1.toNat]?).bind λx4=>some ((⟨y1.1.now,(y1.1.servers.set a1.toNat (⟨true,x4.intact,x4.version,x4.epoch,x4.config,x4.first,x4.log,x4.commit,x4.learned⟩:qQ)),y1.1.sides,y1.1.master,y1.1.masterUp,y1.1.lease,y1.1.places⟩:qN),0,())) none)) none)
def Q9[dL] :=Fz 276 Tryz.f276 LD NT (λx=>Ih x.1 x.2.1) [FQ,M8] [] (by kernel_rfl) λx=>by simp only[Ih,tm];kernel_rfl
def Lw(a0:qQ):Option (qQ×Unit):=
 some ((⟨a0.up,false,a0.version,0,(⟨0,0,([]:List Int),([]:List Int)⟩:om),0,([]:List sf),0,([]:List sf)⟩:qQ),())
def TQ[dL] :=Fz 199 Tryz.f199 UQ [.st .server] (λx=>Lw x.1) [] [] (by kernel_rfl) λx=>by simp only[Lw,tm];kernel_rfl
def LS(a0:qN)(a1:Int):Option (qN×Int×Unit):=
 (Fw a0).bind λy1=>(Hp a0 a1).bind λy2=>br (!y2.1) (some (y1.1,1,())) (iteP (0<=a1) ((a0.servers[a1.toNat]?).bind λx3=>(Lw x3).bind λy4=>iteP (0<=a1/\a1< (y1.1.servers.length:Int)) ((y1.1.servers[a1.toNat]?).bind λ_=>some ((⟨y1.1.now,(y1.1.servers.set a1.toNat y4.1),y1.1.sides,y1.1.master,y1.1.masterUp,y1.1.lease,y1.1.places⟩:qN),0,())) none) none)
def Vp[dL] :=Fz 130 Tryz.f130 LD NT (λx=>LS x.1 x.2.1) [FQ,M8,TQ] [] (by kernel_rfl) λx=>by simp only[LS,tm];kernel_rfl
def LU(a0:List Int)(a1:Int)(a2:Int):Option ((List Int)×Bool×Unit):=
 iteP ((([]:List Int)++a0).length*8<=2 ^ 40) ((G8 a0).bind λy1=>br (!y1.1) (some ((([]:List Int)++a0),false,())) ((Ff a1 0 4).bind λy2=>br (!y2.1) (some ((([]:List Int)++a0),false,())) ((Ff a2 0 3).bind λy3=>br (!y3.1) (some ((([]:List Int)++a0),false,())) (iteP (0<=a1/\a1< ((([]:List Int)++a0).length:Int)) (((([]:List Int)++a0)[a1.toNat]?).bind λ_=>some (((([]:List Int)++a0).set a1.toNat a2),true,())) none)))) none
def Vq[dL] :=Fz 297 Tryz.f297 XC [.ls (.i .i64),.b] (λx=>LU x.1 x.2.1 x.2.2.1) [Ny,FE] [] (by kernel_rfl) λx=>by simp only[LU,tm];kernel_rfl
def JT(a0:qN)(a1:Int)(a2:Int):Option (qN×Int×Unit):=
 (Fw a0).bind λy1=>(LU a0.sides a1 a2).bind λy2=>(Fd a0).bind λy3=>br (!y3.1) (some (y1.1,1,())) (br (!y2.2.1) (some (y1.1,1,())) (some ((⟨y1.1.now,y1.1.servers,y2.1,y1.1.master,y1.1.masterUp,y1.1.lease,y1.1.places⟩:qN),0,())))
def TL[dL] :=Fz 277 Tryz.f277 SX NT (λx=>JT x.1 x.2.1 x.2.2.1) [FQ,Vq,Fg] [] (by kernel_rfl) λx=>by simp only[JT,tm];kernel_rfl
def JX(a0:qN)(a1:Int):Option (qN×Int×Unit):=
 (Fw a0).bind λy1=>(Fd a0).bind λy2=>br (!y2.1) (some (y1.1,1,())) ((Ff a1 0 3).bind λy3=>br (!y3.1) (some (y1.1,1,())) (some ((⟨y1.1.now,y1.1.servers,y1.1.sides,y1.1.master,a1,y1.1.lease,y1.1.places⟩:qN),0,())))
def TP[dL] :=Fz 278 Tryz.f278 LD NT (λx=>JX x.1 x.2.1) [FQ,Fg,FE] [] (by kernel_rfl) λx=>by simp only[JX,tm];kernel_rfl
def Kl(a0:qN)(a1:Int):Option (qN×Int×Unit):=
 (Fw a0).bind λy1=>(Fd a0).bind λy2=>br (!y2.1) (some (y1.1,1,())) ((Ff a1 0 (IntKind.wrap .i64 (999-a0.now))).bind λy3=>br (!y3.1) (some (y1.1,1,())) (some ((⟨(IntKind.wrap .i64 (a0.now+a1)),y1.1.servers,y1.1.sides,y1.1.master,y1.1.masterUp,y1.1.lease,y1.1.places⟩:qN),0,())))
def RP[dL] :=Fz 279 Tryz.f279 LD NT (λx=>Kl x.1 x.2.1) [FQ,Fg,FE] [] (by kernel_rfl) λx=>by simp only[Kl,tm];kernel_rfl
def K0(a0:qN)(a1:Int)(a2:Int):Option (Bool×Unit):=
 (Fd a0).bind λy1=>br (!y1.1) (some (false,())) ((Gv a0.sides a1 a2).bind λy2=>br (!y2.1) (some (false,())) (br (a1==a2) (some (false,())) (iteP (0<=a1) ((a0.servers[a1.toNat]?).bind λx3=>(GV x3.config a1).bind λy4=>br x3.up (iteP (0<=a2) ((a0.servers[a2.toNat]?).bind λx5=>br x5.up (br (y4.1==1) (br (x3.config.epoch==a0.master.activated) ((GV x3.config a2).bind λy6=>some ((y6.1==0),())) (some (false,()))) (br (y4.1==2) (br (x3.config.epoch==a0.master.activated) ((GV x3.config a2).bind λy7=>some ((y7.1==0),())) (some (false,()))) (some (false,())))) (some (false,()))) none) (some (false,()))) none)))
def UK[dL] :=Fz 305 Tryz.f305 SX [.b] (λx=>K0 x.1 x.2.1 x.2.2.1) [Fg,Kt,M7] [] (by kernel_rfl) λx=>by simp only[K0,tm];kernel_rfl
abbrev MP:LX:=⟨⟨[(0,.cl (.int .i64)),Wa,Oh],[],[],0,31⟩,[(.ext 0,⟨[Wa,Oh],[],[],0,31⟩)],[],[0,3,4],[3,4]⟩
def KF(s: (Int×ByteArray×Bool×Unit)×Unit×Unit):MP.R:=
 br (!(s.1.1==0)) (let j5 (p4:Int):MP.R:=iteP (0< ([(IntKind.wrap .u8 (IntKind.wrap .i64 (48+p4)))]:List Int).length/\0+([(IntKind.wrap .u8 (IntKind.wrap .i64 (48+p4)))]:List Int).length<=([(IntKind.wrap .u8 (IntKind.wrap .i64 (48+p4)))]:List Int).length) (iteP ((Cu ((([(IntKind.wrap .u8 (IntKind.wrap .i64 (48+p4)))]:List Int).drop 0).take (([(IntKind.wrap .u8 (IntKind.wrap .i64 (48+p4)))]:List Int).length))).size+s.1.2.1.size<=2 ^ 40) (some (.inl (((IntKind.wrap .i64 (Int.tdiv s.1.1 10)),((Cu ((([(IntKind.wrap .u8 (IntKind.wrap .i64 (48+p4)))]:List Int).drop 0).take (([(IntKind.wrap .u8 (IntKind.wrap .i64 (48+p4)))]:List Int).length)))++s.1.2.1),s.1.2.2),(()),(())))) none) none;br (decide ((Int.tmod s.1.1 10)<0)) (j5 (IntKind.wrap .i64 (0-(Int.tmod s.1.1 10)))) (j5 (Int.tmod s.1.1 10))) (some (.inr (s.1.2,(()),(()))))
def SO:=md KF
def S8[dL] :=H3 Tryz.f313 [0] MP KF [] [] (by kernel_rfl) λs=>by simp only[KF,tm];kernel_rfl
def Gy(a0:Int):Option (ByteArray×Unit):=
 br (a0==0) (some ((⟨⟨[48]⟩⟩:ByteArray),())) ((SO ((a0,ByteArray.empty,(decide (a0<0)),()),(()),(()))).bind λe6=>br e6.1.2.1 (iteP ((⟨⟨[45]⟩⟩:ByteArray).size+e6.1.1.size<=2 ^ 40) (some (((⟨⟨[45]⟩⟩:ByteArray)++e6.1.1),())) none) (some (e6.1.1,())))
def QN[dL] :=Fz 313 Tryz.f313 Ua [.s] (λx=>Gy x.1) [] [S8] (by kernel_rfl) λx=>by simp only[Gy,tm];kernel_rfl
def LR(a0:Op):Option (ByteArray×Unit):=
 (FD a0).bind λy1=>br (!y1.1) (some (ByteArray.empty,())) ((Gy a0.client).bind λy2=>iteP (y2.1.size+(⟨⟨[46]⟩⟩:ByteArray).size<=2 ^ 40) ((Gy a0.seq).bind λy3=>iteP ((y2.1++(⟨⟨[46]⟩⟩:ByteArray)).size+y3.1.size<=2 ^ 40) (iteP (((y2.1++(⟨⟨[46]⟩⟩:ByteArray))++y3.1).size+(⟨⟨[32]⟩⟩:ByteArray).size<=2 ^ 40) (br (a0.kind==1) (iteP ((((y2.1++(⟨⟨[46]⟩⟩:ByteArray))++y3.1)++(⟨⟨[32]⟩⟩:ByteArray)).size+(⟨⟨[119,114,105,116,101,32]⟩⟩:ByteArray).size<=2 ^ 40) ((Gy a0.object).bind λy4=>iteP (((((y2.1++(⟨⟨[46]⟩⟩:ByteArray))++y3.1)++(⟨⟨[32]⟩⟩:ByteArray))++(⟨⟨[119,114,105,116,101,32]⟩⟩:ByteArray)).size+y4.1.size<=2 ^ 40) (iteP ((((((y2.1++(⟨⟨[46]⟩⟩:ByteArray))++y3.1)++(⟨⟨[32]⟩⟩:ByteArray))++(⟨⟨[119,114,105,116,101,32]⟩⟩:ByteArray))++y4.1).size+(⟨⟨[32]⟩⟩:ByteArray).size<=2 ^ 40) ((Gy a0.value).bind λy5=>iteP (((((((y2.1++(⟨⟨[46]⟩⟩:ByteArray))++y3.1)++(⟨⟨[32]⟩⟩:ByteArray))++(⟨⟨[119,114,105,116,101,32]⟩⟩:ByteArray))++y4.1)++(⟨⟨[32]⟩⟩:ByteArray)).size+y5.1.size<=2 ^ 40) (some ((((((((y2.1++(⟨⟨[46]⟩⟩:ByteArray))++y3.1)++(⟨⟨[32]⟩⟩:ByteArray))++(⟨⟨[119,114,105,116,101,32]⟩⟩:ByteArray))++y4.1)++(⟨⟨[32]⟩⟩:ByteArray))++y5.1),())) none) none) none) none) (iteP ((((y2.1++(⟨⟨[46]⟩⟩:ByteArray))++y3.1)++(⟨⟨[32]⟩⟩:ByteArray)).size+(⟨⟨[115,119,97,112,32]⟩⟩:ByteArray).size<=2 ^ 40) ((Gy a0.object).bind λy6=>iteP (((((y2.1++(⟨⟨[46]⟩⟩:ByteArray))++y3.1)++(⟨⟨[32]⟩⟩:ByteArray))++(⟨⟨[115,119,97,112,32]⟩⟩:ByteArray)).size+y6.1.size<=2 ^ 40) (iteP ((((((y2.1++(⟨⟨[46]⟩⟩:ByteArray))++y3.1)++(⟨⟨[32]⟩⟩:ByteArray))++(⟨⟨[115,119,97,112,32]⟩⟩:ByteArray))++y6.1).size+(⟨⟨[32]⟩⟩:ByteArray).size<=2 ^ 40) ((Gy a0.old).bind λy7=>iteP (((((((y2.1++(⟨⟨[46]⟩⟩:ByteArray))++y3.1)++(⟨⟨[32]⟩⟩:ByteArray))++(⟨⟨[115,119,97,112,32]⟩⟩:ByteArray))++y6.1)++(⟨⟨[32]⟩⟩:ByteArray)).size+y7.1.size<=2 ^ 40) (iteP ((((((((y2.1++(⟨⟨[46]⟩⟩:ByteArray))++y3.1)++(⟨⟨[32]⟩⟩:ByteArray))++(⟨⟨[115,119,97,112,32]⟩⟩:ByteArray))++y6.1)++(⟨⟨[32]⟩⟩:ByteArray))++y7.1).size+(⟨⟨[32]⟩⟩:ByteArray).size<=2 ^ 40) ((Gy a0.value).bind λy8=>iteP (((((((((y2.1++(⟨⟨[46]⟩⟩:ByteArray))++y3.1)++(⟨⟨[32]⟩⟩:ByteArray))++(⟨⟨[115,119,97,112,32]⟩⟩:ByteArray))++y6.1)++(⟨⟨[32]⟩⟩:ByteArray))++y7.1)++(⟨⟨[32]⟩⟩:ByteArray)).size+y8.1.size<=2 ^ 40) (some ((((((((((y2.1++(⟨⟨[46]⟩⟩:ByteArray))++y3.1)++(⟨⟨[32]⟩⟩:ByteArray))++(⟨⟨[115,119,97,112,32]⟩⟩:ByteArray))++y6.1)++(⟨⟨[32]⟩⟩:ByteArray))++y7.1)++(⟨⟨[32]⟩⟩:ByteArray))++y8.1),())) none) none) none) none) none) none)) none) none) none)
def Vn[dL] :=Fz 314 Tryz.f314 V6 [.s] (λx=>LR x.1) [K4,QN] [] (by kernel_rfl) λx=>by simp only[LR,tm];kernel_rfl
abbrev MQ:LX:=⟨⟨[OT,Wa,NB],[],[],0,38⟩,[(.ext 0,⟨[Wa],[],[],0,38⟩)],[],[0,3,4],[3]⟩
def KG(s: (List sf×ByteArray×Int×Unit)×Unit×Unit):MQ.R:=
 br (decide (s.1.2.2.1< (s.1.1.length:Int))) (let j10 (p5:ByteArray):MQ.R:=iteP (0<=s.1.2.2.1) ((s.1.1[s.1.2.2.1.toNat]?).bind λx6=>(Gy x6.epoch).bind λy7=>iteP (p5.size+y7.1.size<=2 ^ 40) (iteP ((p5++y7.1).size+(⟨⟨[58]⟩⟩:ByteArray).size<=2 ^ 40) (iteP (0<=s.1.2.2.1) ((s.1.1[s.1.2.2.1.toNat]?).bind λx8=>(LR x8.op).bind λy9=>iteP (((p5++y7.1)++(⟨⟨[58]⟩⟩:ByteArray)).size+y9.1.size<=2 ^ 40) (some (.inl ((s.1.1,(((p5++y7.1)++(⟨⟨[58]⟩⟩:ByteArray))++y9.1),(IntKind.wrap .i64 (s.1.2.2.1+1)),()),(()),(())))) none) none) none) none) none;br (decide (s.1.2.2.1>0)) (iteP (s.1.2.1.size+(⟨⟨[59]⟩⟩:ByteArray).size<=2 ^ 40) (j10 (s.1.2.1++(⟨⟨[59]⟩⟩:ByteArray))) none) (j10 s.1.2.1)) (some (.inr ((s.1.2.1,()),(()),(()))))
def SP:=md KG
def S9[dL] :=H3 Tryz.f312 [0] MQ KG [QN,Vn] [] (by kernel_rfl) λs=>by simp only[KG,tm];kernel_rfl
def KT(a0:List sf):Option (ByteArray×Unit):=
 (Gk a0).bind λy1=>br (!y1.1) (some (ByteArray.empty,())) (br ((a0.length:Int)==0) (some ((⟨⟨[110,111,110,101]⟩⟩:ByteArray),())) ((SP ((a0,ByteArray.empty,0,()),(()),(()))).bind λe11=>some e11.1))
def UD[dL] :=Fz 312 Tryz.f312 Rj [.s] (λx=>KT x.1) [LA] [S9] (by kernel_rfl) λx=>by simp only[KT,tm];kernel_rfl
abbrev Qd:LX:=⟨⟨[(0,.cl (.str)),NC,NB],[],[],0,21⟩,[(.ext 0,⟨[NC],[],[],0,21⟩)],[],[0,3,4],[3]⟩
def Lp(s: (ByteArray×Int×Int×Unit)×Unit×Unit):Qd.R:=
 br (decide (s.1.2.2.1< (s.1.1.size:Int))) (iteP (0<=s.1.2.2.1) ((s.1.1[s.1.2.2.1.toNat]?).bind λx4=>some (.inl ((s.1.1,(Int.tmod (IntKind.wrap .i64 ((IntKind.wrap .i64 ((IntKind.wrap .i64 (s.1.2.1*257))+(IntKind.wrap .i64 (x4.toNat:Int))))+1)) 9949),(IntKind.wrap .i64 (s.1.2.2.1+1)),()),(()),(())))) none) (some (.inr ((s.1.2.1,()),(()),(()))))
def TY:=md Lp
def Uh[dL] :=H3 Tryz.f311 [0] Qd Lp [] [] (by kernel_rfl) λs=>by simp only[Lp,tm];kernel_rfl
def LP(a0:ByteArray):Option (Int×Unit):=
 (TY ((a0,5,0,()),(()),(()))).bind λe5=>some e5.1
def Vl[dL] :=Fz 311 Tryz.f311 [.ty (.s)] Ke (λx=>LP x.1) [] [Uh] (by kernel_rfl) λx=>by simp only[LP,tm];kernel_rfl
abbrev Ou:LX:=⟨⟨[OT,Tm,NB,K6],[],Iw,0,37⟩,[(.ext 0,⟨[Tm],[],Iw,0,37⟩)],[],[0,3,4,5],[3]⟩
def JI(s: (List sf×Unit×Int×Int×Unit)×Unit×List Int×Unit):Ou.R:=
 br (decide (s.1.2.2.2.1< (s.1.1.length:Int))) (iteP (0<=s.1.2.2.2.1/\s.1.2.2.2.1<=(IntKind.wrap .i64 (s.1.2.2.2.1+1))/\(IntKind.wrap .i64 (s.1.2.2.2.1+1))<=(s.1.1.length:Int)) ((KT ((s.1.1.drop s.1.2.2.2.1.toNat).take ((IntKind.wrap .i64 (s.1.2.2.2.1+1)).toNat-s.1.2.2.2.1.toNat))).bind λy6=>(LP y6.1).bind λy7=>iteP ((s.2.2.1++([(Int.tmod (IntKind.wrap .i64 ((IntKind.wrap .i64 (s.1.2.2.1*31))+y7.1)) 9973)]:List Int)).length*8<=2 ^ 40) (some (.inl ((s.1.1,(),(Int.tmod (IntKind.wrap .i64 ((IntKind.wrap .i64 (s.1.2.2.1*31))+y7.1)) 9973),(IntKind.wrap .i64 (s.1.2.2.2.1+1)),()),(()),(s.2.2.1++([(Int.tmod (IntKind.wrap .i64 ((IntKind.wrap .i64 (s.1.2.2.1*31))+y7.1)) 9973)]:List Int)),()))) none) none) (some (.inr (((),()),(()),s.2.2)))
def RZ:=md JI
def Sl[dL] :=H3 Tryz.f310 [0] Ou JI [UD,Vl] [] (by kernel_rfl) λs=>by simp only[JI,tm];kernel_rfl
def JP(a0:List sf):Option ((List Int)×Unit):=
 (Gk a0).bind λy1=>br (!y1.1) (some (([]:List Int),())) (iteP ((([]:List Int)++([11]:List Int)).length*8<=2 ^ 40) ((RZ ((a0,(),11,0,()),(()),(([]:List Int)++([11]:List Int)),())).bind λe8=>some e8.2.2) none)
def TF[dL] :=Fz 310 Tryz.f310 Rj LF (λx=>JP x.1) [LA] [Sl] (by kernel_rfl) λx=>by simp only[JP,tm];kernel_rfl
def Kk(a0:List sf)(a1:Int):Option (Int×Unit):=
 (JP a0).bind λy1=>(Ff a1 0 (IntKind.wrap .i64 ((y1.1.length:Int)-1))).bind λy2=>br (!y2.1) (some ((-1),())) (iteP (0<=a1/\a1< (y1.1.length:Int)) ((y1.1[a1.toNat]?).bind λx3=>some (x3,())) none)
def RL[dL] :=Fz 309 Tryz.f309 XD Ke (λx=>Kk x.1 x.2.1) [TF,FE] [] (by kernel_rfl) λx=>by simp only[Kk,tm];kernel_rfl
def Jj(a0:qQ):Option (Int×Unit):=
 (Kk a0.learned (a0.learned.length:Int)).bind λy1=>some (y1.1,())
def Q8[dL] :=Fz 307 Tryz.f307 UQ Ke (λx=>Jj x.1) [RL] [] (by kernel_rfl) λx=>by simp only[Jj,tm];kernel_rfl
def JV(a0:List sf)(a1:Int)(a2:Int):Option (Bool×Unit):=
 br (decide (a2≥0)) ((Kk a0 a1).bind λy1=>some ((y1.1==a2),())) (some (false,()))
def RQ[dL] :=Fz 306 Tryz.f306 Y3 [.b] (λx=>JV x.1 x.2.1 x.2.2.1) [RL] [] (by kernel_rfl) λx=>by simp only[JV,tm];kernel_rfl
def I5(a0:qN)(a1:Int)(a2:Int):Option (Int×Unit):=
 (K0 a0 a1 a2).bind λy1=>br (!y1.1) (some ((-1),())) (iteP (0<=a1) ((a0.servers[a1.toNat]?).bind λx2=>(FB x2).bind λy3=>iteP (0<=a2) ((a0.servers[a2.toNat]?).bind λx4=>iteP (0<=a2) ((a0.servers[a2.toNat]?).bind λx5=>(Jj x5).bind λy6=>(JV y3.1 (x4.learned.length:Int) y6.1).bind λy7=>br (!y7.1) (some ((IntKind.wrap .i64 ((y3.1.length:Int)-0)),())) (some ((IntKind.wrap .i64 ((y3.1.length:Int)-(x4.learned.length:Int))),()))) none) none) none)
def SE[dL] :=Fz 298 Tryz.f298 SX Ke (λx=>I5 x.1 x.2.1 x.2.2.1) [UK,Jl,Q8,RQ] [] (by kernel_rfl) λx=>by simp only[I5,tm];kernel_rfl
def I6(a0:qN)(a1:Int)(a2:Int)(a3:Int):Option (qN×Int×Unit):=
 (Fw a0).bind λy1=>(I5 a0 a1 a2).bind λy2=>br (decide (y2.1<0)) (some (y1.1,0,())) ((Ff a3 1 4).bind λy3=>br (!y3.1) (some (y1.1,0,())) (iteP (0<=a1) ((a0.servers[a1.toNat]?).bind λx4=>(FB x4).bind λy5=>iteP (0<=(0:Int)/\(0:Int)<=(IntKind.wrap .i64 ((IntKind.wrap .i64 ((y5.1.length:Int)-y2.1))+(if a3<y2.1 then a3 else y2.1)))/\(IntKind.wrap .i64 ((IntKind.wrap .i64 ((y5.1.length:Int)-y2.1))+(if a3<y2.1 then a3 else y2.1)))<=((y5.1.length:Nat):Int)) (iteP ((0+(0:Int).toNat)+((IntKind.wrap .i64 ((IntKind.wrap .i64 ((y5.1.length:Int)-y2.1))+(if a3<y2.1 then a3 else y2.1))).toNat-(0:Int).toNat)<=y5.1.length) ((Gj ((y5.1.drop (0+(0:Int).toNat)).take ((IntKind.wrap .i64 ((IntKind.wrap .i64 ((y5.1.length:Int)-y2.1))+(if a3<y2.1 then a3 else y2.1))).toNat-(0:Int).toNat))).bind λy6=>iteP (0<=a2/\a2< (y1.1.servers.length:Int)) ((y1.1.servers[a2.toNat]?).bind λx7=>some ((⟨y1.1.now,(y1.1.servers.set a2.toNat (⟨x7.up,x7.intact,x7.version,x7.epoch,x7.config,x7.first,x7.log,x7.commit,y6.1⟩:qQ)),y1.1.sides,y1.1.master,y1.1.masterUp,y1.1.lease,y1.1.places⟩:qN),(if a3<y2.1 then a3 else y2.1),())) none) none) none) none))
def SF[dL] :=Fz 280 Tryz.f280 Y8 NT (λx=>I6 x.1 x.2.1 x.2.2.1 x.2.2.2.1) [FQ,SE,FE,Jl,Jc] [] (by kernel_rfl) λx=>by simp only[I6,tm];kernel_rfl
def Ij(a0:qN)(a1:Int):Option (qN×Int×Unit):=
 (Fw a0).bind λy1=>(Hp a0 a1).bind λy2=>br (!y2.1) (some (y1.1,1,())) (iteP (0<=a1) ((a0.servers[a1.toNat]?).bind λx3=>br (x3.version==2) (some (y1.1,1,())) (iteP (0<=a1) ((a0.servers[a1.toNat]?).bind λx4=>br (!x4.up) (some (y1.1,2,())) (iteP (0<=a1/\a1< (y1.1.servers.length:Int)) ((y1.1.servers[a1.toNat]?).bind λx5=>some ((⟨y1.1.now,(y1.1.servers.set a1.toNat (⟨x5.up,x5.intact,2,x5.epoch,x5.config,x5.first,x5.log,x5.commit,x5.learned⟩:qQ)),y1.1.sides,y1.1.master,y1.1.masterUp,y1.1.lease,y1.1.places⟩:qN),0,())) none)) none)) none)
def Rb[dL] :=Fz 281 Tryz.f281 LD NT (λx=>Ij x.1 x.2.1) [FQ,M8] [] (by kernel_rfl) λx=>by simp only[Ij,tm];kernel_rfl
def HX(a0:List sf):Option (Bool×Unit):=
 (Hb a0).bind λy1=>some (y1.1,())
def N8[dL] :=Fz 67 Tryz.f67 Rj [.b] (λx=>HX x.1) [L6] [] (by kernel_rfl) λx=>by simp only[HX,tm];kernel_rfl
abbrev IP:LX:=⟨⟨[J6,Nf,Tl,(6,.cl (.ptr 2 0)),XF,Qa],[JG,Nh,VJ,XU],XY,0,80⟩,[(.ret,⟨[J6,O5,K6,OU],[VJ,VJ],XY,0,80⟩),(.ext 0,⟨[J6,O5,(5,.cl (.dead)),OU],[Nh,VJ],XY,0,80⟩)],[],[1,2,4,6,7,8],[1,4,5,6]⟩
def Hs(s: (Int×Unit×Unit×Unit×Unit×Int×Unit)×(MN×ND×ND×XP×Unit)×List qQ×List Int×List om×List vB×Unit):IP.R:=
 br (decide (s.1.2.2.2.2.2.1< (s.2.1.1.2.1.length:Int))) ((It (⟨s.2.1.2.2.2.1.2.2.2.2.1,s.2.1.2.2.2.1.2.2.2.2.2.1,s.2.1.2.2.2.1.2.2.2.2.2.2.1,s.2.1.2.2.2.1.2.2.2.2.2.2.2.1⟩:om)).bind λy47=>br (!y47.1) (iteP (0<=s.1.2.2.2.2.2.1) ((s.2.1.1.2.1[s.1.2.2.2.2.2.1.toNat]?).bind λx48=>(Gu x48.config (⟨s.2.1.2.2.2.1.2.2.2.2.1,s.2.1.2.2.2.1.2.2.2.2.2.1,s.2.1.2.2.2.1.2.2.2.2.2.2.1,s.2.1.2.2.2.1.2.2.2.2.2.2.2.1⟩:om)).bind λy49=>let j52:IP.R:=some (.inl ((s.1.1,(),(),(),(),(IntKind.wrap .i64 (s.1.2.2.2.2.2.1+1)),()),s.2));br y49.1 (iteP (0<=s.1.2.2.2.2.2.1) ((s.2.1.1.2.1[s.1.2.2.2.2.2.1.toNat]?).bind λx50=>(HX x50.log).bind λy51=>br y51.1 (some (.inr (.inl ((s.1.1,(),6,(),()),(s.2.1.2.2.1,s.2.1.2.2.1,()),s.2.2)))) (j52)) none) (j52)) none) (some (.inr (.inr ((s.1.1,(),(),(),()),(s.2.1.2.1,s.2.1.2.2.1,()),s.2.2))))) (some (.inr (.inr ((s.1.1,(),(),(),()),(s.2.1.2.1,s.2.1.2.2.1,()),s.2.2))))
def Oe:=md Hs
def OA[dL] :=H3 Tryz.f282 [0] IP Hs [N8,OM,JZ] [] (by kernel_rfl) λs=>by simp only[Hs,tm];kernel_rfl
def Hw(a0:qN)(a1:Int):Option (qN×Int×Unit):=
 (Fw a0).bind λy1=>(Hp a0 a1).bind λy2=>br (!y2.1) (some (y1.1,1,())) (iteP (0<=a1) ((a0.servers[a1.toNat]?).bind λx3=>br (x3.version==1) (some (y1.1,1,())) (iteP (0<=a1) ((a0.servers[a1.toNat]?).bind λx4=>br (!x4.up) (some (y1.1,2,())) (iteP (0<=a1) ((a0.servers[a1.toNat]?).bind λx5=>(HX x5.learned).bind λy6=>br y6.1 (some (y1.1,6,())) ((Oe ((a1,(),(),(),(),0,()),((a0.now,a0.servers,a0.sides,a0.master.configs,a0.master.activated,a0.masterUp,a0.lease.epoch,a0.lease.holder,a0.lease.ends,a0.places,()),(0,(),(),(),0,0,0,0,0,(),()),(y1.1.now,(),(),(),y1.1.master.activated,y1.1.masterUp,y1.1.lease.epoch,y1.1.lease.holder,y1.1.lease.ends,(),()),(x5.up,x5.intact,x5.version,x5.epoch,x5.config.epoch,x5.config.primary,x5.config.replicas,x5.config.witnesses,x5.first,x5.log,x5.commit,x5.learned,()),()),y1.1.servers,y1.1.sides,y1.1.master.configs,y1.1.places,())).bind λe53=>Sum.elim (λe53_0=>some ((⟨e53_0.2.1.1.1,e53_0.2.2.1,e53_0.2.2.2.1,(⟨e53_0.2.2.2.2.1,e53_0.2.1.1.2.2.2.2.1⟩:kB),e53_0.2.1.1.2.2.2.2.2.1,(⟨e53_0.2.1.1.2.2.2.2.2.2.1,e53_0.2.1.1.2.2.2.2.2.2.2.1,e53_0.2.1.1.2.2.2.2.2.2.2.2.1⟩:vz),e53_0.2.2.2.2.2.1⟩:qN),e53_0.1.2.2.1,())) (λe53_1=>iteP (0<=e53_1.1.1/\e53_1.1.1< (e53_1.2.2.1.length:Int)) ((e53_1.2.2.1[e53_1.1.1.toNat]?).bind λx54=>some ((⟨e53_1.2.1.2.1.1,(e53_1.2.2.1.set e53_1.1.1.toNat (⟨x54.up,x54.intact,1,x54.epoch,x54.config,x54.first,x54.log,x54.commit,x54.learned⟩:qQ)),e53_1.2.2.2.1,(⟨e53_1.2.2.2.2.1,e53_1.2.1.2.1.2.2.2.2.1⟩:kB),e53_1.2.1.2.1.2.2.2.2.2.1,(⟨e53_1.2.1.2.1.2.2.2.2.2.2.1,e53_1.2.1.2.1.2.2.2.2.2.2.2.1,e53_1.2.1.2.1.2.2.2.2.2.2.2.2.1⟩:vz),e53_1.2.2.2.2.2.1⟩:qN),0,())) none) e53)) none)) none)) none)
def PY[dL] :=Fz 282 Tryz.f282 LD NT (λx=>Hw x.1 x.2.1) [FQ,M8,N8] [OA] (by kernel_rfl) λx=>by simp only[Hw,tm];kernel_rfl
abbrev Mq:LX:=⟨⟨[Kd,R4,Mf,MD],[JG,WM],XX,0,64⟩,[(.ret,⟨[P8,R5],[XV],YL,0,64⟩),(.ext 0,⟨[OS,R5],[XV],YL,0,64⟩)],[],[1,3,5,6],[2,3]⟩
def H8(s:YG×(MN×Qx×Unit)×List Int×List Int×List Int×Unit):Mq.R:=
 br (decide (s.1.2.2.2.1< (s.2.2.1.length:Int))) (iteP (0<=s.1.2.2.2.1/\s.1.2.2.2.1< (s.2.2.1.length:Int)) ((s.2.2.1[s.1.2.2.2.1.toNat]?).bind λx23=>(Kq (⟨s.2.1.1.1,s.2.1.1.2.1,s.2.1.1.2.2.1,(⟨s.2.1.1.2.2.2.1,s.2.1.1.2.2.2.2.1⟩:kB),s.2.1.1.2.2.2.2.2.1,(⟨s.2.1.1.2.2.2.2.2.2.1,s.2.1.1.2.2.2.2.2.2.2.1,s.2.1.1.2.2.2.2.2.2.2.2.1⟩:vz),s.2.1.1.2.2.2.2.2.2.2.2.2.1⟩:qN) s.2.1.2.1.2.1 x23).bind λy24=>br (!y24.1) (some (.inr (.inl (((-1),(),()),s.2.1.2,s.2.2.2)))) (some (.inl (((),(),(),(IntKind.wrap .i64 (s.1.2.2.2.1+1)),()),s.2)))) none) (some (.inr (.inr (((),(),()),s.2.1.2,s.2.2.2))))
def Ps:=md H8
def PB[dL] :=H3 Tryz.f308 [0] Mq H8 [RU] [] (by kernel_rfl) λs=>by simp only[H8,tm];kernel_rfl
def HZ(a0:qN):Option (Int×Unit):=
 (Fp a0.master).bind λy1=>(Fd a0).bind λy2=>br (!y2.1) (some ((-1),())) (br (!y1.2.1) (some ((-1),())) (iteP (0<=y1.1.primary) ((a0.servers[y1.1.primary.toNat]?).bind λx3=>(Ga x3 y1.1.primary).bind λy4=>br (!y4.1) (some ((-1),())) (iteP (0<=y1.1.primary) ((a0.servers[y1.1.primary.toNat]?).bind λx5=>br (!(x5.config.epoch==y1.1.epoch)) (some ((-1),())) ((Gi y1.1).bind λy6=>(Ps (((),(),(),0,()),((a0.now,a0.servers,a0.sides,a0.master.configs,a0.master.activated,a0.masterUp,a0.lease.epoch,a0.lease.holder,a0.lease.ends,a0.places,()),(y1.1.epoch,y1.1.primary,(),(),()),()),y6.1,y1.1.replicas,y1.1.witnesses,())).bind λe25=>Sum.elim (λe25_0=>some (e25_0.1.1,())) (λe25_1=>some (e25_1.2.1.1.2.1,())) e25)) none)) none))
def Qp[dL] :=Fz 308 Tryz.f308 SW Ke (λx=>HZ x.1) [GA,Fg,IJ,IK] [PB] (by kernel_rfl) λx=>by simp only[HZ,tm];kernel_rfl
def JA(a0:qN):Option (Bool×Unit):=
 (HZ a0).bind λy1=>some ((decide (y1.1≥0)),())
def QO[dL] :=Fz 300 Tryz.f300 SW [.b] (λx=>JA x.1) [Qp] [] (by kernel_rfl) λx=>by simp only[JA,tm];kernel_rfl
def KV(a0:qN)(a1:Int):Option (Int×Unit):=
 (Fp a0.master).bind λy1=>(Fd a0).bind λy2=>br (!y2.1) (some (1,())) (br (!y1.2.1) (some (1,())) ((FC y1.1.replicas a1).bind λy3=>br (!y3.1) (some (1,())) (br (a1==y1.1.primary) (some (1,())) (br (!((a0.master.configs.length:Int)==y1.1.epoch)) (some (1,())) (br (y1.1.epoch==20) (some (1,())) (br (decide ((IntKind.wrap .i64 (a0.masterUp*2))<=3)) (some (8,())) ((JA a0).bind λy4=>br (!y4.1) (some (10,())) (iteP (0<=y1.1.primary) ((a0.sides[y1.1.primary.toNat]?).bind λx5=>br (!(x5==0)) (some (10,())) (br (decide (a0.lease.ends>0)) (br (!(a0.lease.holder==y1.1.primary)) (some (7,())) (some (0,()))) (some (0,())))) none))))))))
def UF[dL] :=Fz 299 Tryz.f299 LD Ke (λx=>KV x.1 x.2.1) [GA,Fg,GZ,QO] [] (by kernel_rfl) λx=>by simp only[KV,tm];kernel_rfl
def Ii(a0:qN)(a1:Int):Option (qN×Int×Unit):=
 (Fw a0).bind λy1=>(KV a0 a1).bind λy2=>br (!(y2.1==0)) (some (y1.1,y2.1,())) ((Fp a0.master).bind λy3=>(Hl a0 y3.1.primary).bind λy4=>(HH (⟨y4.1.now,y4.1.servers,y4.1.sides,y4.1.master,y4.1.masterUp,(⟨0,0,0⟩:vz),y4.1.places⟩:qN) (⟨(IntKind.wrap .i64 (y3.1.epoch+1)),a1,y3.1.replicas,y3.1.witnesses⟩:om)).bind λy5=>(Jq y5.1).bind λy6=>some (y6.1,y6.2.1,()))
def Ra[dL] :=Fz 283 Tryz.f283 LD NT (λx=>Ii x.1 x.2.1) [FQ,UF,GA,NH,MI,Pm] [] (by kernel_rfl) λx=>by simp only[Ii,tm];kernel_rfl
def Ja(a0:qN)(a1:Int)(a2:Int):Option (qN×Int×Unit):=
 (Fw a0).bind λy1=>(Fd a0).bind λy2=>br (!y2.1) (some (y1.1,1,())) ((Ff a2 1 50).bind λy3=>br (!y3.1) (some (y1.1,1,())) ((JA a0).bind λy4=>br y4.1 (some (y1.1,0,())) ((IX a0 a1 0).bind λy5=>br (!y5.2.1) (some (y1.1,10,())) ((HH a0 y5.1).bind λy6=>br (!(y6.2.1==0)) (some (y1.1,y6.2.1,())) ((Kn a0.lease).bind λy7=>(Kl y6.1 (if (IntKind.wrap .i64 (y7.1-a0.now))>0 then (IntKind.wrap .i64 (y7.1-a0.now)) else 0)).bind λy8=>br (!(y8.2.1==0)) (some (y1.1,y8.2.1,())) ((Jq y8.1).bind λy9=>br (!(y9.2.1==0)) (some (y9.1,y9.2.1,())) ((IY y9.1 y5.1.primary a2).bind λy10=>some (y10.1,y10.2.1,()))))))))
def SK[dL] :=Fz 284 Tryz.f284 SX NT (λx=>Ja x.1 x.2.1 x.2.2.1) [FQ,Fg,FE,QO,PZ,MI,RS,RP,Pm,P0] [] (by kernel_rfl) λx=>by simp only[Ja,tm];kernel_rfl
def M1(a0:qN)(a1:xx):Option (qN×Int×Unit):=
 let j28 (p17:Int) (p18:List qQ) (p19:List Int) (p20:List om) (p21:Int) (p22:Int) (p23:Int) (p24:Int) (p25:Int) (p26:List vB) (p27:Int):Option (qN×Int×Unit):=some ((⟨p17,p18,p19,(⟨p20,p21⟩:kB),p22,(⟨p23,p24,p25⟩:vz),p26⟩:qN),p27,());br (a1.kind==3) ((IY a0 a1.server a1.n).bind λy1=>j28 y1.1.now y1.1.servers y1.1.sides y1.1.master.configs y1.1.master.activated y1.1.masterUp y1.1.lease.epoch y1.1.lease.holder y1.1.lease.ends y1.1.places y1.2.1) (br (a1.kind==4) ((IX a0 a1.n a1.other).bind λy2=>br (!y2.2.1) ((Fw a0).bind λy3=>some (y3.1,10,())) ((HH a0 y2.1).bind λy4=>j28 y4.1.now y4.1.servers y4.1.sides y4.1.master.configs y4.1.master.activated y4.1.masterUp y4.1.lease.epoch y4.1.lease.holder y4.1.lease.ends y4.1.places y4.2.1)) (br (a1.kind==5) ((Jq a0).bind λy5=>j28 y5.1.now y5.1.servers y5.1.sides y5.1.master.configs y5.1.master.activated y5.1.masterUp y5.1.lease.epoch y5.1.lease.holder y5.1.lease.ends y5.1.places y5.2.1) (br (a1.kind==6) ((I7 a0 a1.server).bind λy6=>j28 y6.1.now y6.1.servers y6.1.sides y6.1.master.configs y6.1.master.activated y6.1.masterUp y6.1.lease.epoch y6.1.lease.holder y6.1.lease.ends y6.1.places y6.2.1) (br (a1.kind==7) ((Ih a0 a1.server).bind λy7=>j28 y7.1.now y7.1.servers y7.1.sides y7.1.master.configs y7.1.master.activated y7.1.masterUp y7.1.lease.epoch y7.1.lease.holder y7.1.lease.ends y7.1.places y7.2.1) (br (a1.kind==8) ((LS a0 a1.server).bind λy8=>j28 y8.1.now y8.1.servers y8.1.sides y8.1.master.configs y8.1.master.activated y8.1.masterUp y8.1.lease.epoch y8.1.lease.holder y8.1.lease.ends y8.1.places y8.2.1) (br (a1.kind==9) ((JT a0 a1.server a1.n).bind λy9=>j28 y9.1.now y9.1.servers y9.1.sides y9.1.master.configs y9.1.master.activated y9.1.masterUp y9.1.lease.epoch y9.1.lease.holder y9.1.lease.ends y9.1.places y9.2.1) (br (a1.kind==10) ((JX a0 a1.n).bind λy10=>j28 y10.1.now y10.1.servers y10.1.sides y10.1.master.configs y10.1.master.activated y10.1.masterUp y10.1.lease.epoch y10.1.lease.holder y10.1.lease.ends y10.1.places y10.2.1) (br (a1.kind==11) ((Kl a0 a1.n).bind λy11=>j28 y11.1.now y11.1.servers y11.1.sides y11.1.master.configs y11.1.master.activated y11.1.masterUp y11.1.lease.epoch y11.1.lease.holder y11.1.lease.ends y11.1.places y11.2.1) (br (a1.kind==12) ((I6 a0 a1.server a1.other a1.n).bind λy12=>br (y12.2.1==0) (j28 y12.1.now y12.1.servers y12.1.sides y12.1.master.configs y12.1.master.activated y12.1.masterUp y12.1.lease.epoch y12.1.lease.holder y12.1.lease.ends y12.1.places 11) (j28 y12.1.now y12.1.servers y12.1.sides y12.1.master.configs y12.1.master.activated y12.1.masterUp y12.1.lease.epoch y12.1.lease.holder y12.1.lease.ends y12.1.places 0)) (br (a1.kind==13) ((Ij a0 a1.server).bind λy13=>j28 y13.1.now y13.1.servers y13.1.sides y13.1.master.configs y13.1.master.activated y13.1.masterUp y13.1.lease.epoch y13.1.lease.holder y13.1.lease.ends y13.1.places y13.2.1) (br (a1.kind==14) ((Hw a0 a1.server).bind λy14=>j28 y14.1.now y14.1.servers y14.1.sides y14.1.master.configs y14.1.master.activated y14.1.masterUp y14.1.lease.epoch y14.1.lease.holder y14.1.lease.ends y14.1.places y14.2.1) (br (a1.kind==15) ((Ii a0 a1.server).bind λy15=>j28 y15.1.now y15.1.servers y15.1.sides y15.1.master.configs y15.1.master.activated y15.1.masterUp y15.1.lease.epoch y15.1.lease.holder y15.1.lease.ends y15.1.places y15.2.1) ((Ja a0 a1.other a1.n).bind λy16=>j28 y16.1.now y16.1.servers y16.1.sides y16.1.master.configs y16.1.master.activated y16.1.masterUp y16.1.lease.epoch y16.1.lease.holder y16.1.lease.ends y16.1.places y16.2.1)))))))))))))
def WD[dL] :=Fz 252 Tryz.f252 Y9 NT (λx=>M1 x.1 x.2.1) [P0,PZ,FQ,MI,Pm,SG,Q9,Vp,TL,TP,RP,SF,Rb,PY,Ra,SK] [] (by kernel_rfl) λx=>by simp only[M1,tm];kernel_rfl
def LV(a0:qN)(a1:xx):Option (qN×xB×Unit):=
 (Fd a0).bind λy1=>br (!y1.1) ((Fw a0).bind λy2=>some (y2.1,(⟨1,(⟨false,0⟩:Result),0⟩:xB),())) ((IC a1).bind λy3=>br (!y3.1) ((Fw a0).bind λy4=>some (y4.1,(⟨1,(⟨false,0⟩:Result),0⟩:xB),())) (br (a1.kind==1) ((LQ a0 a1.server a1.op).bind λy5=>some (y5.1,y5.2.1,())) (br (a1.kind==2) ((Fw a0).bind λy6=>(KU a0 a1.server a1.n).bind λy7=>some (y6.1,y7.1,())) ((M1 a0 a1).bind λy8=>some (y8.1,(⟨y8.2.1,(⟨false,0⟩:Result),0⟩:xB),())))))
def Vt[dL] :=Fz 235 Tryz.f235 Y9 Zq (λx=>LV x.1 x.2.1) [Fg,FQ,RN,Vm,UE,WD] [] (by kernel_rfl) λx=>by simp only[LV,tm];kernel_rfl
abbrev Pc:LX:=⟨⟨[(1,.cl (.ro (.st .event))),O5,OU,Zh,Qa],[Nh,WL],ZB,0,40⟩,[(.ext 0,⟨[O5,OU,Zh],[Nh,WL],ZB,0,40⟩)],[],[1,4,6,7,8],[4,6,7]⟩
def KJ(s: (List xx×Unit×Unit×Unit×Int×Unit)×(ND×ND×Unit)×List xB×List qQ×List Int×List om×List vB×Unit):Pc.R:=
 br (decide (s.1.2.2.2.2.1< (s.1.1.length:Int))) (br (decide (s.1.2.2.2.2.1<60)) (iteP (0<=s.1.2.2.2.2.1) ((s.1.1[s.1.2.2.2.2.1.toNat]?).bind λx21=>(LV (⟨s.2.1.2.1.1,s.2.2.2.1,s.2.2.2.2.1,(⟨s.2.2.2.2.2.1,s.2.1.2.1.2.2.2.2.1⟩:kB),s.2.1.2.1.2.2.2.2.2.1,(⟨s.2.1.2.1.2.2.2.2.2.2.1,s.2.1.2.1.2.2.2.2.2.2.2.1,s.2.1.2.1.2.2.2.2.2.2.2.2.1⟩:vz),s.2.2.2.2.2.2.1⟩:qN) x21).bind λy22=>iteP ((s.2.2.1++([y22.2.1]:List xB)).length*32<=2 ^ 40) (some (.inl ((s.1.1,(),(),(),(IntKind.wrap .i64 (s.1.2.2.2.2.1+1)),()),(s.2.1.1,(y22.1.now,(),(),(),y22.1.master.activated,y22.1.masterUp,y22.1.lease.epoch,y22.1.lease.holder,y22.1.lease.ends,(),()),()),(s.2.2.1++([y22.2.1]:List xB)),y22.1.servers,y22.1.sides,y22.1.master.configs,y22.1.places,()))) none) none) (some (.inr (((),(),(),()),s.2)))) (some (.inr (((),(),(),()),s.2)))
def ST:=md KJ
def Td[dL] :=H3 Tryz.f216 [0] Pc KJ [Vt] [] (by kernel_rfl) λs=>by simp only[KJ,tm];kernel_rfl
def KW(a0:qN)(a1:List xx):Option (qN×(List xB)×Unit):=
 (Fw a0).bind λy1=>(ST ((a1,(),(),(),0,()),((0,(),(),(),0,0,0,0,0,(),()),(y1.1.now,(),(),(),y1.1.master.activated,y1.1.masterUp,y1.1.lease.epoch,y1.1.lease.holder,y1.1.lease.ends,(),()),()),([]:List xB),y1.1.servers,y1.1.sides,y1.1.master.configs,y1.1.places,())).bind λe23=>some ((⟨e23.2.1.2.1.1,e23.2.2.2.1,e23.2.2.2.2.1,(⟨e23.2.2.2.2.2.1,e23.2.1.2.1.2.2.2.2.1⟩:kB),e23.2.1.2.1.2.2.2.2.2.1,(⟨e23.2.1.2.1.2.2.2.2.2.2.1,e23.2.1.2.1.2.2.2.2.2.2.2.1,e23.2.1.2.1.2.2.2.2.2.2.2.2.1⟩:vz),e23.2.2.2.2.2.2.1⟩:qN),e23.2.2.1,())
def UG[dL] :=Fz 216 Tryz.f216 [.ty (.st .cluster),.ty (.ls (.st .event))] [.st .cluster,.ls (.st .reply)] (λx=>KW x.1 x.2.1) [FQ] [Td] (by kernel_rfl) λx=>by simp only[KW,tm];kernel_rfl
def JY[dL](a0:List qO):Option ((List qO)×qN×Unit):=
 (Ks a0).bind λy1=>iteP (y1.1.length=a0.length) ((JU y1.2.1).bind λy2=>(K2 y1.1 14).bind λy3=>iteP (y3.1.length=y1.1.length) ((KW y2.1 y3.2.1).bind λy4=>some (y3.1,y4.1,())) none) none
def TR[dL] :=Rv 185 Tryz.f185 (.st .cur) [] XS (λl _=>JY l) [RV,TM,UM,UG] [] (by kernel_rfl) λl x=>by simp only[JY,tm,-eq_self];kernel_rfl
abbrev Qe:LX:=⟨⟨[R2,Wb,NB],[],YN,1,17⟩,[(.ext 0,⟨[Wb],[],YN,1,17⟩)],[],[0,3,4],[3]⟩
def JL[dL](s:WI×Unit×List qO×List Int×Unit):Qe.R:=
 br (decide (s.1.2.2.1<5)) ((Fk s.2.2.1 ([0,0,0,1,2]:List Int)).bind λy4=>iteP (y4.1.length=s.2.2.1.length) (iteP ((s.2.2.2.1++([y4.2.1]:List Int)).length*8<=2 ^ 40) (some (.inl (((),(),(IntKind.wrap .i64 (s.1.2.2.1+1)),()),(()),y4.1,(s.2.2.2.1++([y4.2.1]:List Int)),()))) none) none) (some (.inr (((),()),(()),s.2.2)))
def P7[dL] :=md JL
def Ui[dL] :=H3 Tryz.f220 [0] Qe JL [F8] [] (by kernel_rfl) λs=>by simp only[JL,tm,-eq_self];kernel_rfl
def LW[dL](a0:List qO):Option ((List qO)×(List Int)×Unit):=
 (P7 (((),(),0,()),(()),a0,([]:List Int),())).bind λe5=>some e5.2.2
def Vu[dL] :=Rv 220 Tryz.f220 (.st .cur) [] LF (λl _=>LW l) [] [Ui] (by kernel_rfl) λl x=>by simp only[LW,tm];kernel_rfl
def N2[dL](a0:List qO):Option ((List qO)×(List Int)×Unit):=
 (LW a0).bind λy1=>iteP (y1.1.length=a0.length) ((Fe y1.1 12).bind λy2=>iteP (y2.1.length=y1.1.length) (br (y2.2.1==0) (iteP (0<=(1:Int)/\(1:Int)<=(y1.2.1.length:Int)/\(y1.2.1.length:Int)<=((y1.2.1.length:Nat):Int)) (iteP ((0+(1:Int).toNat)=0/\((y1.2.1.length:Int).toNat-(1:Int).toNat)<=y1.2.1.length) (some (y2.1,(y1.2.1.take ((y1.2.1.length:Int).toNat-(1:Int).toNat)),())) (iteP ((0+(1:Int).toNat)+((y1.2.1.length:Int).toNat-(1:Int).toNat)<=y1.2.1.length) (some (y2.1,((y1.2.1.drop (0+(1:Int).toNat)).take ((y1.2.1.length:Int).toNat-(1:Int).toNat)),())) none)) none) (br (y2.2.1==1) ((Fk y2.1 ([(-1),3,4]:List Int)).bind λy3=>iteP (y3.1.length=y2.1.length) (iteP (0<=(1:Int)/\(1:Int)< (y1.2.1.length:Int)) ((y1.2.1[(1:Int).toNat]?).bind λ_=>some (y3.1,(y1.2.1.set ((1:Int).toNat) y3.2.1),())) none) none) (some (y2.1,y1.2.1,())))) none) none
def Xq[dL] :=Rv 186 Tryz.f186 (.st .cur) [] LF (λl _=>N2 l) [Vu,FV,F8] [] (by kernel_rfl) λl x=>by simp only[N2,tm,-eq_self];kernel_rfl
abbrev Sc:LX:=⟨⟨[R2,Wb,NB],[],YN,1,17⟩,[(.ext 0,⟨[Wb],[],YN,1,17⟩)],[],[0,3,4],[3]⟩
def Nv[dL](s:WI×Unit×List qO×List Int×Unit):Sc.R:=
 br (decide (s.1.2.2.1<5)) ((Gb s.2.2.1 2).bind λy4=>iteP (y4.1.length=s.2.2.1.length) (br y4.2.1 (iteP ((s.2.2.2.1++([s.1.2.2.1]:List Int)).length*8<=2 ^ 40) (some (.inl (((),(),(IntKind.wrap .i64 (s.1.2.2.1+1)),()),(()),y4.1,(s.2.2.2.1++([s.1.2.2.1]:List Int)),()))) none) (some (.inl (((),(),(IntKind.wrap .i64 (s.1.2.2.1+1)),()),(()),y4.1,s.2.2.2)))) none) (some (.inr (((),()),(()),s.2.2)))
def VF[dL] :=md Nv
def VS[dL] :=H3 Tryz.f253 [0] Sc Nv [IL] [] (by kernel_rfl) λs=>by simp only[Nv,tm,-eq_self];kernel_rfl
def K1[dL](a0:List qO):Option ((List qO)×(List Int)×Unit):=
 (VF (((),(),0,()),(()),a0,([]:List Int),())).bind λe6=>some e6.2.2
def UL[dL] :=Rv 253 Tryz.f253 (.st .cur) [] LF (λl _=>K1 l) [] [VS] (by kernel_rfl) λl x=>by simp only[K1,tm];kernel_rfl
def Js[dL](a0:List qO)(a1:Int):Option ((List qO)×om×Unit):=
 (Fe a0 5).bind λy1=>iteP (y1.1.length=a0.length) ((K1 y1.1).bind λy2=>iteP (y2.1.length=y1.1.length) ((HL y2.2.1 y1.2.1).bind λy3=>let j9 (p4:List Int):Option ((List qO)×om×Unit):=(Gb y2.1 2).bind λy5=>iteP (y5.1.length=y2.1.length) (br y5.2.1 ((K1 y5.1).bind λy6=>iteP (y6.1.length=y5.1.length) ((FP y6.2.1 p4).bind λy7=>br (decide ((y7.1.length:Int)>0)) (iteP (0<=(0:Int)/\(0:Int)<=(1:Int)/\(1:Int)<=((y7.1.length:Nat):Int)) (iteP ((0+(0:Int).toNat)=0/\((1:Int).toNat-(0:Int).toNat)<=y7.1.length) (some (y6.1,(⟨a1,y1.2.1,p4,(y7.1.take ((1:Int).toNat-(0:Int).toNat))⟩:om),())) (iteP ((0+(0:Int).toNat)+((1:Int).toNat-(0:Int).toNat)<=y7.1.length) (some (y6.1,(⟨a1,y1.2.1,p4,((y7.1.drop (0+(0:Int).toNat)).take ((1:Int).toNat-(0:Int).toNat))⟩:om),())) none)) none) (some (y6.1,(⟨a1,y1.2.1,p4,([]:List Int)⟩:om),()))) none) (some (y5.1,(⟨a1,y1.2.1,p4,([]:List Int)⟩:om),()))) none;br (decide ((y3.1.length:Int)>3)) (j9 ([y1.2.1]:List Int)) (j9 y3.1)) none) none
def Pp[dL] :=Rv 238 Tryz.f238 (.st .cur) Ua YH (λl x=>Js l x.1) [FV,UL,Nz,IL,Ku] [] (by kernel_rfl) λl x=>by simp only[Js,tm,-eq_self];kernel_rfl
abbrev Sa:LX:=⟨⟨[R2,Nf,R4,NB],[YI,Zy],[.st .cur,.st .config],1,34⟩,[(.ext 0,⟨[Nf,R4],[YI,Zy],[.st .cur,.st .config],1,34⟩)],[.b 1 0 (.st .config)],[0,2,3,4],[2,3]⟩
def Nt[dL](s:YG×(Uc×Uc×Unit)×List qO×List om×Unit):Sa.R:=
 br (decide (s.1.2.2.2.1>0)) ((Js s.2.2.1 (IntKind.wrap .i64 ((s.2.2.2.1.length:Int)+1))).bind λy17=>iteP (y17.1.length=s.2.2.1.length) ((Hn (⟨s.2.2.2.1,s.2.1.2.1.2.1⟩:kB) y17.2.1).bind λy18=>(Gb y17.1 2).bind λy19=>iteP (y19.1.length=y17.1.length) (br y19.2.1 ((G5 y18.1 (y18.1.configs.length:Int)).bind λy20=>some (.inl (((),(),(),(IntKind.wrap .i64 (s.1.2.2.2.1-1)),()),(s.2.1.1,((),y20.1.activated,()),()),y19.1,y20.1.configs,()))) (some (.inl (((),(),(),(IntKind.wrap .i64 (s.1.2.2.2.1-1)),()),(s.2.1.1,((),y18.1.activated,()),()),y19.1,y18.1.configs,())))) none) none) (some (.inr (((),(),()),s.2)))
def VD[dL] :=md Nt
def VP[dL] :=H3 Tryz.f221 [0] Sa Nt [Pp,NK,IL,M4] [] (by kernel_rfl) λs=>by simp only[Nt,tm,-eq_self];kernel_rfl
def NY[dL](a0:List qO):Option ((List qO)×kB×Unit):=
 (Fe a0 5).bind λy1=>iteP (y1.1.length=a0.length) ((VD (((),(),(),y1.2.1,()),(((),0,()),((),0,()),()),y1.1,([]:List om),())).bind λe23=>some (e23.2.2.1,(⟨e23.2.2.2.1,e23.2.1.2.1.2.1⟩:kB),())) none
def Xm[dL] :=Rv 221 Tryz.f221 (.st .cur) [] ZR (λl _=>NY l) [FV] [VP] (by kernel_rfl) λl x=>by simp only[NY,tm,-eq_self];kernel_rfl
def OI[dL](a0:List qO):Option ((List qO)×(List Int)×Unit):=
 (K1 a0).bind λy1=>iteP (y1.1.length=a0.length) ((Gb y1.1 8).bind λy2=>iteP (y2.1.length=y1.1.length) (br y2.2.1 ((Fk y2.1 ([(-1),0,4,5]:List Int)).bind λy3=>iteP (y3.1.length=y2.1.length) (iteP ((y1.2.1++([y3.2.1]:List Int)).length*8<=2 ^ 40) (some (y3.1,(y1.2.1++([y3.2.1]:List Int)),())) none) none) (some (y2.1,y1.2.1,()))) none) none
def Yy[dL] :=Rv 239 Tryz.f239 (.st .cur) [] LF (λl _=>OI l) [UL,IL,F8] [] (by kernel_rfl) λl x=>by simp only[OI,tm,-eq_self];kernel_rfl
def OK[dL](a0:List qO):Option ((List qO)×om×Unit):=
 (Fe a0 4).bind λy1=>iteP (y1.1.length=a0.length) ((Js y1.1 (IntKind.wrap .i64 (1+y1.2.1))).bind λy2=>iteP (y2.1.length=y1.1.length) ((Fe y2.1 14).bind λy3=>iteP (y3.1.length=y2.1.length) (br (y3.2.1==0) ((Fk y3.1 ([0,20,21]:List Int)).bind λy4=>iteP (y4.1.length=y3.1.length) (some (y4.1,(⟨y4.2.1,y2.2.1.primary,y2.2.1.replicas,y2.2.1.witnesses⟩:om),())) none) (br (y3.2.1==1) ((Fe y3.1 7).bind λy5=>iteP (y5.1.length=y3.1.length) (some (y5.1,(⟨y2.2.1.epoch,(IntKind.wrap .i64 (y5.2.1-1)),y2.2.1.replicas,y2.2.1.witnesses⟩:om),())) none) (br (y3.2.1==2) ((OI y3.1).bind λy6=>iteP (y6.1.length=y3.1.length) (some (y6.1,(⟨y2.2.1.epoch,y2.2.1.primary,y6.2.1,y2.2.1.witnesses⟩:om),())) none) (br (y3.2.1==3) ((OI y3.1).bind λy7=>iteP (y7.1.length=y3.1.length) (some (y7.1,(⟨y2.2.1.epoch,y2.2.1.primary,y2.2.1.replicas,y7.2.1⟩:om),())) none) (some (y3.1,y2.2.1,())))))) none) none) none
def V5[dL] :=Rv 222 Tryz.f222 (.st .cur) [] YH (λl _=>OK l) [FV,Pp,F8,Yy] [] (by kernel_rfl) λl x=>by simp only[OK,tm,-eq_self];kernel_rfl
def NX[dL](a0:List qO):Option ((List qO)×kB×Unit):=
 (NY a0).bind λy1=>iteP (y1.1.length=a0.length) ((Fe y1.1 14).bind λy2=>iteP (y2.1.length=y1.1.length) (br (y2.2.1==0) ((Fk y2.1 ([(-1),0,3,6]:List Int)).bind λy3=>iteP (y3.1.length=y2.1.length) (some (y3.1,(⟨y1.2.1.configs,y3.2.1⟩:kB),())) none) (br (y2.2.1==1) ((OK y2.1).bind λy4=>iteP (y4.1.length=y2.1.length) (iteP ((y1.2.1.configs++([y4.2.1]:List om)).length*64<=2 ^ 40) (some (y4.1,(⟨(y1.2.1.configs++([y4.2.1]:List om)),y1.2.1.activated⟩:kB),())) none) none) (some (y2.1,y1.2.1,())))) none) none
def Xl[dL] :=Rv 187 Tryz.f187 (.st .cur) [] ZR (λl _=>NX l) [Xm,FV,F8,V5] [] (by kernel_rfl) λl x=>by simp only[NX,tm,-eq_self];kernel_rfl
def NZ[dL](a0:List qO):Option ((List qO)×vz×Unit):=
 (Gb a0 4).bind λy1=>iteP (y1.1.length=a0.length) (let j17 (p5:List qO) (p6:Int) (p7:Int) (p8:Int):Option ((List qO)×vz×Unit):=(Fe p5 14).bind λy9=>iteP (y9.1.length=p5.length) (br (y9.2.1==0) ((Fk y9.1 ([0,20,21]:List Int)).bind λy10=>iteP (y10.1.length=y9.1.length) (some (y10.1,(⟨y10.2.1,p7,p8⟩:vz),())) none) (br (y9.2.1==1) ((Fk y9.1 ([(-1),4,5]:List Int)).bind λy11=>iteP (y11.1.length=y9.1.length) (some (y11.1,(⟨p6,y11.2.1,p8⟩:vz),())) none) (br (y9.2.1==2) ((Fk y9.1 ([(-1),0,1049,1050]:List Int)).bind λy12=>iteP (y12.1.length=y9.1.length) (some (y12.1,(⟨p6,p7,y12.2.1⟩:vz),())) none) (some (y9.1,(⟨p6,p7,p8⟩:vz),()))))) none;br (!y1.2.1) ((Fe y1.1 3).bind λy2=>iteP (y2.1.length=y1.1.length) ((Fe y2.1 3).bind λy3=>iteP (y3.1.length=y2.1.length) ((Fe y3.1 20).bind λy4=>iteP (y4.1.length=y3.1.length) (j17 y4.1 (IntKind.wrap .i64 (1+y2.2.1)) y3.2.1 (IntKind.wrap .i64 (1+y4.2.1))) none) none) none) (j17 y1.1 0 0 0)) none
def Xn[dL] :=Rv 188 Tryz.f188 (.st .cur) [] [.st .lease] (λl _=>NZ l) [IL,FV,F8] [] (by kernel_rfl) λl x=>by simp only[NZ,tm,-eq_self];kernel_rfl
def PQ[dL](a0:List qO):Option ((List qO)×(List vB)×Unit):=
 (Ks a0).bind λy1=>iteP (y1.1.length=a0.length) ((Fe y1.1 14).bind λy2=>iteP (y2.1.length=y1.1.length) (br (y2.2.1==0) (iteP (0<=(1:Int)/\(1:Int)<=(y1.2.1.length:Int)/\(y1.2.1.length:Int)<=((y1.2.1.length:Nat):Int)) (iteP ((0+(1:Int).toNat)=0/\((y1.2.1.length:Int).toNat-(1:Int).toNat)<=y1.2.1.length) (some (y2.1,(y1.2.1.take ((y1.2.1.length:Int).toNat-(1:Int).toNat)),())) (iteP ((0+(1:Int).toNat)+((y1.2.1.length:Int).toNat-(1:Int).toNat)<=y1.2.1.length) (some (y2.1,((y1.2.1.drop (0+(1:Int).toNat)).take ((y1.2.1.length:Int).toNat-(1:Int).toNat)),())) none)) none) (br (y2.2.1==1) ((Fk y2.1 ([(-1),9,10]:List Int)).bind λy3=>iteP (y3.1.length=y2.1.length) (iteP (0<=(0:Int)/\(0:Int)< (y1.2.1.length:Int)) ((y1.2.1[(0:Int).toNat]?).bind λx4=>some (y3.1,(y1.2.1.set ((0:Int).toNat) (⟨y3.2.1,x4.capacity,x4.load⟩:vB)),())) none) none) (br (y2.2.1==2) ((Fk y2.1 ([(-1),99,100]:List Int)).bind λy6=>iteP (y6.1.length=y2.1.length) (iteP (0<=(1:Int)/\(1:Int)< (y1.2.1.length:Int)) ((y1.2.1[(1:Int).toNat]?).bind λx7=>some (y6.1,(y1.2.1.set ((1:Int).toNat) (⟨x7.rack,x7.capacity,y6.2.1⟩:vB)),())) none) none) (some (y2.1,y1.2.1,()))))) none) none
def YB[dL] :=Rv 189 Tryz.f189 (.st .cur) [] [.ls (.st .place)] (λl _=>PQ l) [RV,FV,F8] [] (by kernel_rfl) λl x=>by simp only[PQ,tm,-eq_self];kernel_rfl
abbrev Tu:LX:=⟨⟨[R2,Wc,NB,K6],[],YO,1,27⟩,[(.ext 0,⟨[Wc],[],YO,1,27⟩)],[],[0,3,4,5],[3]⟩
def MU[dL](s: (Unit×Unit×Int×Int×Unit)×Unit×List qO×List sf×Unit):Tu.R:=
 br (decide (s.1.2.2.2.1>0)) ((Gb s.2.2.1 3).bind λy6=>iteP (y6.1.length=s.2.2.1.length) (br y6.2.1 ((MG y6.1).bind λy9=>iteP (y9.1.length=y6.1.length) (iteP ((s.2.2.2.1++([(⟨(IntKind.wrap .i64 (s.1.2.2.1+1)),y9.2.1⟩:sf)]:List sf)).length*56<=2 ^ 40) (some (.inl (((),(),(IntKind.wrap .i64 (s.1.2.2.1+1)),(IntKind.wrap .i64 (s.1.2.2.2.1-1)),()),(()),y9.1,(s.2.2.2.1++([(⟨(IntKind.wrap .i64 (s.1.2.2.1+1)),y9.2.1⟩:sf)]:List sf)),()))) none) none) ((MG y6.1).bind λy10=>iteP (y10.1.length=y6.1.length) (iteP ((s.2.2.2.1++([(⟨s.1.2.2.1,y10.2.1⟩:sf)]:List sf)).length*56<=2 ^ 40) (some (.inl (((),(),s.1.2.2.1,(IntKind.wrap .i64 (s.1.2.2.2.1-1)),()),(()),y10.1,(s.2.2.2.1++([(⟨s.1.2.2.1,y10.2.1⟩:sf)]:List sf)),()))) none) none)) none) (some (.inr (((),()),(()),s.2.2)))
def Ti[dL] :=md MU
def WT[dL] :=H3 Tryz.f168 [0] Tu MU [IL,TT] [] (by kernel_rfl) λs=>by simp only[MU,tm,-eq_self];kernel_rfl
def OJ[dL](a0:List qO):Option ((List qO)×(List sf)×Unit):=
 (Fe a0 7).bind λy1=>iteP (y1.1.length=a0.length) ((Ti (((),(),1,y1.2.1,()),(()),y1.1,([]:List sf),())).bind λe14=>some e14.2.2) none
def V4[dL] :=Rv 168 Tryz.f168 (.st .cur) [] SY (λl _=>OJ l) [FV] [WT] (by kernel_rfl) λl x=>by simp only[OJ,tm,-eq_self];kernel_rfl
abbrev Sb:LX:=⟨⟨[OT,J6,K6],[],[],0,25⟩,[(.ext 0,⟨[OT,K6],[],[],0,25⟩)],[],[0,1,5],[0,5]⟩
def Nu(s: (List sf×Int×Int×Unit)×Unit×Unit):Sb.R:=
 br (decide (s.1.2.2.1< (s.1.1.length:Int))) (iteP (0<=s.1.2.2.1) ((s.1.1[s.1.2.2.1.toNat]?).bind λx4=>br (decide (x4.epoch<=s.1.2.1)) (some (.inl ((s.1.1,s.1.2.1,(IntKind.wrap .i64 (s.1.2.2.1+1)),()),(()),(())))) (some (.inr ((s.1.1,s.1.2.2),(()),(()))))) none) (some (.inr ((s.1.1,s.1.2.2),(()),(()))))
def VE:=md Nu
def VQ[dL] :=H3 Tryz.f240 [0] Sb Nu [] [] (by kernel_rfl) λs=>by simp only[Nu,tm];kernel_rfl
def N1(a0:List sf)(a1:Int):Option ((List sf)×Unit):=
 (VE ((a0,a1,0,()),(()),(()))).bind λe5=>iteP (0<=(0:Int)/\(0:Int)<=e5.1.2.1/\e5.1.2.1<=(e5.1.1.length:Int)) ((Gj ((e5.1.1.drop (0:Int).toNat).take (e5.1.2.1.toNat-(0:Int).toNat))).bind λy6=>some (y6.1,())) none
def Xp[dL] :=Fz 240 Tryz.f240 XD SY (λx=>N1 x.1 x.2.1) [Jc] [VQ] (by kernel_rfl) λx=>by simp only[N1,tm];kernel_rfl
def KZ[dL](a0:List qO):Option ((List qO)×qQ×Int×Unit):=
 (Fe a0 2).bind λy1=>iteP (y1.1.length=a0.length) ((JB (IntKind.wrap .i64 (1+y1.2.1))).bind λy2=>(Fe y1.1 3).bind λy3=>iteP (y3.1.length=y1.1.length) ((Js y3.1 (IntKind.wrap .i64 (1+y3.2.1))).bind λy4=>iteP (y4.1.length=y3.1.length) ((Gi y4.2.1).bind λy5=>(Fe y4.1 (y5.1.length:Int)).bind λy6=>iteP (y6.1.length=y4.1.length) (iteP (0<=y6.2.1/\y6.2.1< (y5.1.length:Int)) ((y5.1[y6.2.1.toNat]?).bind λx7=>(Gb y6.1 5).bind λy8=>iteP (y8.1.length=y6.1.length) (br (!y8.2.1) ((OJ y8.1).bind λy9=>iteP (y9.1.length=y8.1.length) ((N1 y9.2.1 y4.2.1.epoch).bind λy10=>(Hm y2.1 y4.2.1 x7 y10.1).bind λy11=>(Gb y9.1 4).bind λy44=>iteP (y44.1.length=y9.1.length) (let j62 (p45:Bool):Option ((List qO)×qQ×Int×Unit):=(Gb y44.1 4).bind λy46=>iteP (y46.1.length=y44.1.length) (br y46.2.1 ((Fe y46.1 3).bind λy47=>iteP (y47.1.length=y46.1.length) ((Hx (⟨p45,y11.1.intact,y11.1.version,y11.1.epoch,y11.1.config,y11.1.first,y11.1.log,y11.1.commit,y11.1.learned⟩:qQ) (IntKind.wrap .i64 (4+y47.2.1))).bind λy48=>some (y47.1,y48.1,x7,())) none) (some (y46.1,(⟨p45,y11.1.intact,y11.1.version,y11.1.epoch,y11.1.config,y11.1.first,y11.1.log,y11.1.commit,y11.1.learned⟩:qQ),x7,()))) none;br y44.2.1 (j62 false) (j62 y11.1.up)) none) none) ((Gb y8.1 4).bind λy63=>iteP (y63.1.length=y8.1.length) (let j81 (p64:Bool):Option ((List qO)×qQ×Int×Unit):=(Gb y63.1 4).bind λy65=>iteP (y65.1.length=y63.1.length) (br y65.2.1 ((Fe y65.1 3).bind λy66=>iteP (y66.1.length=y65.1.length) ((Hx (⟨p64,y2.1.intact,y2.1.version,y2.1.epoch,y2.1.config,y2.1.first,y2.1.log,y2.1.commit,y2.1.learned⟩:qQ) (IntKind.wrap .i64 (4+y66.2.1))).bind λy67=>some (y66.1,y67.1,x7,())) none) (some (y65.1,(⟨p64,y2.1.intact,y2.1.version,y2.1.epoch,y2.1.config,y2.1.first,y2.1.log,y2.1.commit,y2.1.learned⟩:qQ),x7,()))) none;br y63.2.1 (j81 false) (j81 y2.1.up)) none)) none) none) none) none) none) none
def UJ[dL] :=Rv 223 Tryz.f223 (.st .cur) [] [.st .server,.i .i64] (λl _=>KZ l) [FV,QP,Pp,IK,IL,V4,Xp,NI,P1] [] (by kernel_rfl) λl x=>by simp only[KZ,tm,-eq_self];kernel_rfl
def PO[dL](a0:List qO):Option ((List qO)×Op×Unit):=
 (MG a0).bind λy1=>iteP (y1.1.length=a0.length) ((Fe y1.1 14).bind λy2=>iteP (y2.1.length=y1.1.length) (br (y2.2.1==0) ((Fk y2.1 ([(-1),2,3]:List Int)).bind λy3=>iteP (y3.1.length=y2.1.length) (some (y3.1,(⟨y3.2.1,y1.2.1.seq,y1.2.1.kind,y1.2.1.object,y1.2.1.old,y1.2.1.value⟩:Op),())) none) (br (y2.2.1==1) ((Fk y2.1 ([0,99,100]:List Int)).bind λy4=>iteP (y4.1.length=y2.1.length) (some (y4.1,(⟨y1.2.1.client,y4.2.1,y1.2.1.kind,y1.2.1.object,y1.2.1.old,y1.2.1.value⟩:Op),())) none) (br (y2.2.1==2) ((Fe y2.1 4).bind λy5=>iteP (y5.1.length=y2.1.length) (some (y5.1,(⟨y1.2.1.client,y1.2.1.seq,y5.2.1,y1.2.1.object,y1.2.1.old,y1.2.1.value⟩:Op),())) none) (br (y2.2.1==3) ((Fk y2.1 ([(-1),3]:List Int)).bind λy6=>iteP (y6.1.length=y2.1.length) (some (y6.1,(⟨y1.2.1.client,y1.2.1.seq,y1.2.1.kind,y6.2.1,y1.2.1.old,y1.2.1.value⟩:Op),())) none) (br (y2.2.1==4) ((Fk y2.1 ([(-1),9,10]:List Int)).bind λy7=>iteP (y7.1.length=y2.1.length) (some (y7.1,(⟨y1.2.1.client,y1.2.1.seq,y1.2.1.kind,y1.2.1.object,y1.2.1.old,y7.2.1⟩:Op),())) none) (br (y2.2.1==5) ((Fk y2.1 ([(-1),0,9,10]:List Int)).bind λy8=>iteP (y8.1.length=y2.1.length) (some (y8.1,(⟨y1.2.1.client,y1.2.1.seq,y1.2.1.kind,y1.2.1.object,y8.2.1,y1.2.1.value⟩:Op),())) none) (some (y2.1,y1.2.1,())))))))) none) none
def Yz[dL] :=Rv 85 Tryz.f85 (.st .cur) [] [.st .op] (λl _=>PO l) [TT,FV,F8] [] (by kernel_rfl) λl x=>by simp only[PO,tm,-eq_self];kernel_rfl
abbrev Ts:LX:=⟨⟨[R2,Wc],[],YO,1,33⟩,[(.ext 1,⟨[Wc],[],YO,1,33⟩)],[],[0,3],[3]⟩
def LI[dL](s:XR×Unit×List qO×List sf×Unit):Ts.R:=
 br (decide ((s.2.2.2.1.length:Int)<17)) ((MG s.2.2.1).bind λy7=>iteP (y7.1.length=s.2.2.1.length) (iteP ((s.2.2.2.1++([(⟨20,y7.2.1⟩:sf)]:List sf)).length*56<=2 ^ 40) (some (.inl (((),(),()),(()),y7.1,(s.2.2.2.1++([(⟨20,y7.2.1⟩:sf)]:List sf)),()))) none) none) (some (.inr (((),()),(()),s.2.2)))
def Th[dL] :=md LI
def WS[dL] :=H3 Tryz.f83 [0] Ts LI [TT] [] (by kernel_rfl) λs=>by simp only[LI,tm,-eq_self];kernel_rfl
def PP[dL](a0:List qO):Option ((List qO)×(List sf)×Unit):=
 (OJ a0).bind λy1=>iteP (y1.1.length=a0.length) ((Fe y1.1 14).bind λy2=>iteP (y2.1.length=y1.1.length) (br (y2.2.1==0) ((Fk y2.1 ([0,1,20,21]:List Int)).bind λy3=>iteP (y3.1.length=y2.1.length) ((PO y3.1).bind λy4=>iteP (y4.1.length=y3.1.length) (iteP ((y1.2.1++([(⟨y3.2.1,y4.2.1⟩:sf)]:List sf)).length*56<=2 ^ 40) (some (y4.1,(y1.2.1++([(⟨y3.2.1,y4.2.1⟩:sf)]:List sf)),())) none) none) none) (br (y2.2.1==1) ((Th (((),(),()),(()),y2.1,y1.2.1,())).bind λe8=>some e8.2.2) (some (y2.1,y1.2.1,())))) none) none
def YA[dL] :=Rv 83 Tryz.f83 (.st .cur) [] SY (λl _=>PP l) [V4,FV,F8,Yz] [WS] (by kernel_rfl) λl x=>by simp only[PP,tm,-eq_self];kernel_rfl
def N0[dL](a0:List qO):Option ((List qO)×qQ×Int×Unit):=
 (KZ a0).bind λy1=>iteP (y1.1.length=a0.length) ((Fe y1.1 16).bind λy2=>iteP (y2.1.length=y1.1.length) (let j21 (p10:List qO) (p11:Int) (p12:Int) (p13:Int) (p14:Int) (p15:List Int) (p16:List Int) (p17:Int) (p18:List sf) (p19:Int) (p20:Int):Option ((List qO)×qQ×Int×Unit):=some (p10,(⟨y1.2.1.up,y1.2.1.intact,p11,p12,(⟨p13,p14,p15,p16⟩:om),p17,p18,p19,y1.2.1.learned⟩:qQ),p20,());br (y2.2.1==0) ((Fk y2.1 ([0,1,3]:List Int)).bind λy3=>iteP (y3.1.length=y2.1.length) (j21 y3.1 y3.2.1 y1.2.1.epoch y1.2.1.config.epoch y1.2.1.config.primary y1.2.1.config.replicas y1.2.1.config.witnesses y1.2.1.first y1.2.1.log y1.2.1.commit y1.2.2.1) none) (br (y2.2.1==1) ((Fk y2.1 ([(-1),0,20,21]:List Int)).bind λy4=>iteP (y4.1.length=y2.1.length) (j21 y4.1 y1.2.1.version y4.2.1 y1.2.1.config.epoch y1.2.1.config.primary y1.2.1.config.replicas y1.2.1.config.witnesses y1.2.1.first y1.2.1.log y1.2.1.commit y1.2.2.1) none) (br (y2.2.1==2) ((OK y2.1).bind λy5=>iteP (y5.1.length=y2.1.length) (j21 y5.1 y1.2.1.version y1.2.1.epoch y5.2.1.epoch y5.2.1.primary y5.2.1.replicas y5.2.1.witnesses y1.2.1.first y1.2.1.log y1.2.1.commit y1.2.2.1) none) (br (y2.2.1==3) ((Fk y2.1 ([(-1),0,2,17]:List Int)).bind λy6=>iteP (y6.1.length=y2.1.length) (j21 y6.1 y1.2.1.version y1.2.1.epoch y1.2.1.config.epoch y1.2.1.config.primary y1.2.1.config.replicas y1.2.1.config.witnesses y1.2.1.first y1.2.1.log y6.2.1 y1.2.2.1) none) (br (y2.2.1==4) ((Fk y2.1 ([(-1),0,2,9223372036854775807]:List Int)).bind λy7=>iteP (y7.1.length=y2.1.length) (j21 y7.1 y1.2.1.version y1.2.1.epoch y1.2.1.config.epoch y1.2.1.config.primary y1.2.1.config.replicas y1.2.1.config.witnesses y7.2.1 y1.2.1.log y1.2.1.commit y1.2.2.1) none) (br (y2.2.1==5) ((Fe y2.1 7).bind λy8=>iteP (y8.1.length=y2.1.length) (j21 y8.1 y1.2.1.version y1.2.1.epoch y1.2.1.config.epoch y1.2.1.config.primary y1.2.1.config.replicas y1.2.1.config.witnesses y1.2.1.first y1.2.1.log y1.2.1.commit (IntKind.wrap .i64 (y8.2.1-1))) none) (br (y2.2.1==6) ((PP y2.1).bind λy9=>iteP (y9.1.length=y2.1.length) (j21 y9.1 y1.2.1.version y1.2.1.epoch y1.2.1.config.epoch y1.2.1.config.primary y1.2.1.config.replicas y1.2.1.config.witnesses y1.2.1.first y9.2.1 y1.2.1.commit y1.2.2.1) none) (j21 y2.1 y1.2.1.version y1.2.1.epoch y1.2.1.config.epoch y1.2.1.config.primary y1.2.1.config.replicas y1.2.1.config.witnesses y1.2.1.first y1.2.1.log y1.2.1.commit y1.2.2.1)))))))) none) none
def Xo[dL] :=Rv 190 Tryz.f190 (.st .cur) [] [.st .server,.i .i64] (λl _=>N0 l) [UJ,FV,F8,V5,YA] [] (by kernel_rfl) λl x=>by simp only[N0,tm,-eq_self];kernel_rfl
def N3[dL](a0:List qO):Option ((List qO)×qN×Unit):=
 (JY a0).bind λy1=>iteP (y1.1.length=a0.length) ((Fe y1.1 20).bind λy2=>iteP (y2.1.length=y1.1.length) (br (y2.2.1==0) ((Fk y2.1 ([(-1),998,999,1000]:List Int)).bind λy3=>iteP (y3.1.length=y2.1.length) (some (y3.1,(⟨y3.2.1,y1.2.1.servers,y1.2.1.sides,y1.2.1.master,y1.2.1.masterUp,y1.2.1.lease,y1.2.1.places⟩:qN),())) none) (br (y2.2.1==1) ((N2 y2.1).bind λy4=>iteP (y4.1.length=y2.1.length) (some (y4.1,(⟨y1.2.1.now,y1.2.1.servers,y4.2.1,y1.2.1.master,y1.2.1.masterUp,y1.2.1.lease,y1.2.1.places⟩:qN),())) none) (br (y2.2.1==2) ((NX y2.1).bind λy5=>iteP (y5.1.length=y2.1.length) (some (y5.1,(⟨y1.2.1.now,y1.2.1.servers,y1.2.1.sides,y5.2.1,y1.2.1.masterUp,y1.2.1.lease,y1.2.1.places⟩:qN),())) none) (br (y2.2.1==3) ((Fk y2.1 ([(-1),3,4]:List Int)).bind λy6=>iteP (y6.1.length=y2.1.length) (some (y6.1,(⟨y1.2.1.now,y1.2.1.servers,y1.2.1.sides,y1.2.1.master,y6.2.1,y1.2.1.lease,y1.2.1.places⟩:qN),())) none) (br (y2.2.1==4) ((NZ y2.1).bind λy7=>iteP (y7.1.length=y2.1.length) (some (y7.1,(⟨y1.2.1.now,y1.2.1.servers,y1.2.1.sides,y1.2.1.master,y1.2.1.masterUp,y7.2.1,y1.2.1.places⟩:qN),())) none) (br (y2.2.1==5) ((PQ y2.1).bind λy8=>iteP (y8.1.length=y2.1.length) (some (y8.1,(⟨y1.2.1.now,y1.2.1.servers,y1.2.1.sides,y1.2.1.master,y1.2.1.masterUp,y1.2.1.lease,y8.2.1⟩:qN),())) none) (br (y2.2.1==6) ((N0 y2.1).bind λy9=>iteP (y9.1.length=y2.1.length) ((Fe y9.1 5).bind λy10=>iteP (y10.1.length=y9.1.length) (iteP (0<=y10.2.1/\y10.2.1< (y1.2.1.servers.length:Int)) ((y1.2.1.servers[y10.2.1.toNat]?).bind λ_=>some (y10.1,(⟨y1.2.1.now,(y1.2.1.servers.set y10.2.1.toNat y9.2.1),y1.2.1.sides,y1.2.1.master,y1.2.1.masterUp,y1.2.1.lease,y1.2.1.places⟩:qN),())) none) none) none) (some (y2.1,y1.2.1,()))))))))) none) none
def Xr[dL] :=Rv 117 Tryz.f117 (.st .cur) [] XS (λl _=>N3 l) [TR,FV,F8,Xq,Xl,Xn,YB,Xo] [] (by kernel_rfl) λl x=>by simp only[N3,tm,-eq_self];kernel_rfl
def OH[dL](a0:Hd):Option (qN×Int×Unit):=
 (Tx a0).bind λy1=>(N3 y1.1).bind λy2=>iteP (y2.1.length=y1.1.length) ((Fe y2.1 7).bind λy3=>iteP (y3.1.length=y2.1.length) (some (y2.2.1,(IntKind.wrap .i64 (y3.2.1-1)),())) none) none
def WC[dL] :=Fz 91 Tryz.f91 [.ty (.h)] NT (λx=>OH x.1) [Yx,Xr,FV] [] (by kernel_rfl) λx=>by simp only[OH,tm,-eq_self];kernel_rfl
def Ig[dL](a0:Hd):Option (qN×Int×Unit):=
 (OH a0).bind λy1=>some (y1.1,y1.2.1,())
def Q7[dL] :=Fz 20 Tryz.f20 [.ty (.h)] NT (λx=>Ig x.1) [WC] [] (by kernel_rfl) λx=>by simp only[Ig,tm];kernel_rfl
def Fm(a0:Int)(a1:Int)(a2:Int):Option (Bool×Unit):=
 br (decide (a1<=a0)) (some ((decide (a0<=a2)),())) (some (false,()))
def Hc[dL] :=Fz 89 Tryz.f89 Xy [.b] (λx=>Fm x.1 x.2.1 x.2.2.1) [] [] (by kernel_rfl) λx=>by simp only[Fm,tm];kernel_rfl
def KM(a0:Int):Option (Bool×Unit):=
 (Fm a0 0 3).bind λy1=>some ((!y1.1),())
def SD[dL] :=Fz 207 Tryz.f207 Ua [.b] (λx=>KM x.1) [Hc] [] (by kernel_rfl) λx=>by simp only[KM,tm];kernel_rfl
abbrev HJ:LX:=⟨⟨[Ng,(1,.cl (.fc 207)),Mg,Qa],[],[],0,19⟩,[(.ret,⟨[NB],[],[],0,19⟩),(.ext 0,⟨[Oi],[],[],0,19⟩)],[],[0,1,7,8],[4]⟩
def Fv(s: (List Int×Unit×Int×Int×Unit)×Unit×Unit):HJ.R:=
 br (decide (s.1.2.2.2.1<s.1.2.2.1)) (iteP (0<=s.1.2.2.2.1) ((s.1.1[s.1.2.2.2.1.toNat]?).bind λx4=>(KM x4).bind λy5=>br y5.1 (some (.inr (.inl (s.1.2.2.2,(()),(()))))) (some (.inl ((s.1.1,(),s.1.2.2.1,(IntKind.wrap .i64 (s.1.2.2.2.1+1)),()),(()),(()))))) none) (some (.inr (.inr (((),()),(()),(())))))
def GD:=md Fv
def Kf[dL] :=H3 Tryz.f171 [0] HJ Fv [SD] [] (by kernel_rfl) λs=>by simp only[Fv,tm];kernel_rfl
def F7(a0:List Int):Option (Int×Unit):=
 (GD ((a0,(),(a0.length:Int),0,()),(()),(()))).bind λe6=>Sum.elim (λe6_0=>some e6_0.1) (λ_=>some ((-1),())) e6
def K5[dL] :=Fz 171 Tryz.f171 Za Ke (λx=>F7 x.1) [] [Kf] (by kernel_rfl) λx=>by simp only[F7,tm];kernel_rfl
def FS(a0:List Int):Option (Bool×Unit):=
 (F7 a0).bind λy1=>some ((decide (y1.1≥0)),())
def J0[dL] :=Fz 98 Tryz.f98 Za [.b] (λx=>FS x.1) [K5] [] (by kernel_rfl) λx=>by simp only[FS,tm];kernel_rfl
def Jo(a0:List Int):Option (Bool×Unit):=
 br ((a0.length:Int)==5) ((FS a0).bind λy1=>some ((!y1.1),())) (some (false,()))
def RE[dL] :=Fz 154 Tryz.f154 VG [.b] (λx=>Jo x.1) [J0] [] (by kernel_rfl) λx=>by simp only[Jo,tm];kernel_rfl
abbrev Ok:LX:=⟨⟨[Ng,(5,.cl (.ro (.i .i64))),MD,Mg],[],[],0,29⟩,[(.ret,⟨[MC],[],[],0,29⟩),(.ext 0,⟨[OS],[],[],0,29⟩)],[],[0,5,6,7],[2]⟩
def Gl(s:Zo×Unit×Unit):Ok.R:=
 br (decide (s.1.2.2.2.1<s.1.2.2.1)) (iteP (0<=s.1.2.2.2.1) ((s.1.2.1[s.1.2.2.2.1.toNat]?).bind λx5=>(Fm x5 0 4).bind λy6=>br (!y6.1) (some (.inr (.inl ((false,()),(()),(()))))) (br (decide (s.1.2.2.2.1>0)) (iteP (0<=(IntKind.wrap .i64 (s.1.2.2.2.1-1))) ((s.1.1[(IntKind.wrap .i64 (s.1.2.2.2.1-1)).toNat]?).bind λx7=>br (decide (x5<=x7)) (some (.inr (.inl ((false,()),(()),(()))))) (some (.inl ((s.1.1,s.1.2.1,s.1.2.2.1,(IntKind.wrap .i64 (s.1.2.2.2.1+1)),()),(()),(()))))) none) (some (.inl ((s.1.1,s.1.2.1,s.1.2.2.1,(IntKind.wrap .i64 (s.1.2.2.2.1+1)),()),(()),(())))))) none) (some (.inr (.inr (((),()),(()),(())))))
def J2:=md Gl
def Se[dL] :=H3 Tryz.f193 [0] Ok Gl [Hc] [] (by kernel_rfl) λs=>by simp only[Gl,tm];kernel_rfl
def GW(a0:List Int):Option (Bool×Unit):=
 (J2 ((a0,a0,(a0.length:Int),0,()),(()),(()))).bind λe8=>Sum.elim (λe8_0=>some e8_0.1) (λ_=>some (true,())) e8
def TC[dL] :=Fz 193 Tryz.f193 VG [.b] (λx=>GW x.1) [] [Se] (by kernel_rfl) λx=>by simp only[GW,tm];kernel_rfl
abbrev Oz:LX:=⟨⟨[Ng,J6,Mg,Qa],[],[],0,19⟩,[(.ret,⟨[NB],[],[],0,19⟩),(.ext 0,⟨[Oi],[],[],0,19⟩)],[],[0,1,7,8],[4]⟩
def HS(s: (List Int×Int×Int×Int×Unit)×Unit×Unit):Oz.R:=
 br (decide (s.1.2.2.2.1<s.1.2.2.1)) (iteP (0<=s.1.2.2.2.1) ((s.1.1[s.1.2.2.2.1.toNat]?).bind λx5=>br (s.1.2.1==x5) (some (.inr (.inl (s.1.2.2.2,(()),(()))))) (some (.inl ((s.1.1,s.1.2.1,s.1.2.2.1,(IntKind.wrap .i64 (s.1.2.2.2.1+1)),()),(()),(()))))) none) (some (.inr (.inr (((),()),(()),(())))))
def Me:=md HS
def Sw[dL] :=H3 Tryz.f242 [0] Oz HS [] [] (by kernel_rfl) λs=>by simp only[HS,tm];kernel_rfl
def Ly(a0:List Int)(a1:Int):Option (Int×Unit):=
 (Me ((a0,a1,(a0.length:Int),0,()),(()),(()))).bind λe6=>Sum.elim (λe6_0=>some e6_0.1) (λ_=>some ((-1),())) e6
def TW[dL] :=Fz 242 Tryz.f242 Tj Ke (λx=>Ly x.1 x.2.1) [] [Sw] (by kernel_rfl) λx=>by simp only[Ly,tm];kernel_rfl
def Jk(a0:List Int)(a1:Int):Option (Bool×Unit):=
 (Ly a0 a1).bind λy1=>some ((decide (y1.1≥0)),())
def Rd[dL] :=Fz 224 Tryz.f224 Tj [.b] (λx=>Jk x.1 x.2.1) [TW] [] (by kernel_rfl) λx=>by simp only[Jk,tm];kernel_rfl
def Hu(a0:List Int)(a1:Int):Option (Bool×Unit):=
 (Jk a0 a1).bind λy1=>some (y1.1,())
def Mz[dL] :=Fz 191 Tryz.f191 Tj [.b] (λx=>Hu x.1 x.2.1) [Rd] [] (by kernel_rfl) λx=>by simp only[Hu,tm];kernel_rfl
def IZ(a0:List Int):Option ((List Int)×Unit):=iteP (a0.length*8<=2 ^ 40) (some (a0,())) none
def TU[dL] :=coC 131 Tryz.f131 (.i .i64) 8 IZ (by kernel_rfl) (λ_=>rfl) λ_=>by kernel_rfl
def Pi(a0:Int):Option (Int×Unit):=
 br (decide (a0≥4294967296)) (none) (br (decide (a0≥65536)) (none) (br (decide (a0≥256)) (none) (iteP (0<=(IntKind.wrap .u8 a0)) ((sb0[(IntKind.wrap .u8 a0).toNat]?).bind λx1=>some ((IntKind.wrap .i64 (0+(IntKind.wrap .i64 (x1.toNat:Int)))),())) none)))
def Vi[dL] :=Fz 265 Tryz.f265 [.ty (.i .u64)] Ke (λx=>Pi x.1) [] [] (by kernel_rfl) λx=>by simp only[Pi,tm];kernel_rfl
def PL(a0:Int):Option (Int×Unit):=
 (Pi a0).bind λy1=>some (y1.1,())
def Xi[dL] :=Fz 246 Tryz.f246 [.ty (.i .u64)] Ke (λx=>PL x.1) [Vi] [] (by kernel_rfl) λx=>by simp only[PL,tm];kernel_rfl
def I4(a0:Int):Option (Bool×Unit):=
 some ((!(a0==a0)),())
def SC[dL] :=Fz 290 Tryz.f290 Ua [.b] (λx=>I4 x.1) [] [] (by kernel_rfl) λx=>by simp only[I4,tm];kernel_rfl
def JM(a0:Int)(a1:Int):Option (Bool×Unit):=
 (I4 a0).bind λy1=>br y1.1 ((I4 a1).bind λy2=>br (!y2.1) (some (true,())) (some ((decide (a0<a1)),()))) (some ((decide (a0<a1)),()))
def TB[dL] :=Fz 261 Tryz.f261 Zb [.b] (λx=>JM x.1 x.2.1) [SC] [] (by kernel_rfl) λx=>by simp only[JM,tm];kernel_rfl
abbrev HD:LX:=⟨⟨[Oj,J6,P8,MD,Mg],[],Iw,1,49⟩,[(.ext 2,⟨[Oj,J6,P8,MD],[],Iw,1,49⟩)],[],[0,1,2,6,7],[0,1,2,6]⟩
def FR(s: (Unit×Int×Int×Int×Int×Unit)×Unit×List Int×Unit):HD.R:=
 br (decide (s.1.2.2.2.2.1>s.1.2.1)) (iteP (0<=s.1.2.2.2.2.1/\s.1.2.2.2.2.1< (s.2.2.1.length:Int)) ((s.2.2.1[s.1.2.2.2.2.1.toNat]?).bind λx10=>iteP (0<=(IntKind.wrap .i64 (s.1.2.2.2.2.1-1))/\(IntKind.wrap .i64 (s.1.2.2.2.2.1-1))< (s.2.2.1.length:Int)) ((s.2.2.1[(IntKind.wrap .i64 (s.1.2.2.2.2.1-1)).toNat]?).bind λx11=>(JM x10 x11).bind λy12=>br y12.1 (iteP (0<=(IntKind.wrap .i64 (s.1.2.2.2.2.1-1))/\(IntKind.wrap .i64 (s.1.2.2.2.2.1-1))< (s.2.2.1.length:Int)) ((s.2.2.1[(IntKind.wrap .i64 (s.1.2.2.2.2.1-1)).toNat]?).bind λx13=>iteP (0<=s.1.2.2.2.2.1/\s.1.2.2.2.2.1< (s.2.2.1.length:Int)) ((s.2.2.1[s.1.2.2.2.2.1.toNat]?).bind λx14=>iteP (0<=s.1.2.2.2.2.1/\s.1.2.2.2.2.1< (s.2.2.1.length:Int)) (iteP (0<=(IntKind.wrap .i64 (s.1.2.2.2.2.1-1))/\(IntKind.wrap .i64 (s.1.2.2.2.2.1-1))< (s.2.2.1.length:Int)) ((s.2.2.1[s.1.2.2.2.2.1.toNat]?).bind λ_=>let z16:=s.2.2.1.set s.1.2.2.2.2.1.toNat x13;(z16[(IntKind.wrap .i64 (s.1.2.2.2.2.1-1)).toNat]?).bind λ_=>some (.inl (((),s.1.2.1,s.1.2.2.1,s.1.2.2.2.1,(IntKind.wrap .i64 (s.1.2.2.2.2.1-1)),()),(()),(z16.set ((IntKind.wrap .i64 (s.1.2.2.2.2.1-1)).toNat) x14),()))) none) none) none) none) (some (.inr (((),s.1.2.1,s.1.2.2.1,s.1.2.2.2.1,()),(()),s.2.2)))) none) none) (some (.inr (((),s.1.2.1,s.1.2.2.1,s.1.2.2.2.1,()),(()),s.2.2)))
def HB:=md FR
def Ka[dL] :=H3 Tryz.f255 [0,0] HD FR [TB] [] (by kernel_rfl) λs=>by simp only[FR,tm];kernel_rfl
abbrev HC:LX:=⟨⟨[Oj,J6,P8,MD],[],Iw,1,49⟩,[(.ext 0,⟨[],[],Iw,1,49⟩)],[],[0,1,2,6],[]⟩
def Fu(s: (Unit×Int×Int×Int×Unit)×Unit×List Int×Unit):HC.R:=
 br (decide (s.1.2.2.2.1<s.1.2.2.1)) ((HB (((),s.1.2.1,s.1.2.2.1,s.1.2.2.2.1,s.1.2.2.2),(()),s.2.2)).bind λe19=>some (.inl (((),e19.1.2.1,e19.1.2.2.1,(IntKind.wrap .i64 (e19.1.2.2.2.1+1)),()),(()),e19.2.2))) (some (.inr ((()),(()),s.2.2)))
def HA:=md Fu
def J9[dL] :=H3 Tryz.f255 [0] HC Fu [] [Ka] (by kernel_rfl) λs=>by simp only[Fu,tm];kernel_rfl
def FJ(a0:List Int)(a1:Int)(a2:Int):Option ((List Int)×Unit):=
 (HA (((),a1,a2,(IntKind.wrap .i64 (a1+1)),()),(()),a0,())).bind λe20=>some e20.2.2
def Kv[dL] :=coI 255 Tryz.f255 (.i .i64) Zb [] (λl x=>FJ l x.1 x.2.1) [] [J9] (by kernel_rfl) λl x=>by simp only[FJ,tm];kernel_rfl
abbrev IQ:LX:=⟨⟨[Oj,J6,P8,NC,US,O6],[],Iw,1,134⟩,[(.ret,⟨[],[],Iw,1,134⟩)],[],[0,1,2,3,8,9],[]⟩
def Gs(s: (Unit×Int×Int×Int×Bool×Bool×Unit)×Unit×List Int×Unit):IQ.R:=
 br (decide ((IntKind.wrap .i64 (s.1.2.2.1-s.1.2.1))<=12)) ((FJ s.2.2.1 s.1.2.1 s.1.2.2.1).bind λy7=>iteP (y7.1.length=s.2.2.1.length) (some (.inr ((()),(()),y7.1,()))) none) (br (s.1.2.2.2.1==0) (none) (br (!s.1.2.2.2.2.1) (none) (none)))
def IM:=md Gs
def Mv[dL] :=H3 Tryz.f245 [0] IQ Gs [Kv] [] (by kernel_rfl) λs=>by simp only[Gs,tm,-eq_self];kernel_rfl
def Gc(a0:List Int)(a1:Int)(a2:Int)(a3:Int):Option ((List Int)×Unit):=
 (IM (((),a1,a2,a3,true,true,()),(()),a0,())).bind λe8=>some e8.2.2
def MJ[dL] :=coI 245 Tryz.f245 (.i .i64) Xy [] (λl x=>Gc l x.1 x.2.1 x.2.2.1) [] [Mv] (by kernel_rfl) λl x=>by simp only[Gc,tm];kernel_rfl
def II(a0:List Int):Option ((List Int)×Unit):=
 (PL (IntKind.wrap .u64 (a0.length:Int))).bind λy1=>(Gc a0 0 (a0.length:Int) y1.1).bind λy2=>iteP (y2.1.length=a0.length) (some (y2.1,())) none
def RY[dL] :=coI 226 Tryz.f226 (.i .i64) [] [] (λl _=>II l) [Xi,MJ] [] (by kernel_rfl) λl x=>by simp only[II,tm,-eq_self];kernel_rfl
abbrev Ln:LX:=⟨⟨[Oj,NC,(4,.cl (.sub 0 (.i .i64))),K6],[],Iw,0,61⟩,[(.ext 2,⟨[Oj,NC],[],Iw,0,61⟩)],[],[0,3,4,5],[0,3]⟩
def I2(s: (Unit×Int×(Nat×Nat)×Int×Unit)×Unit×List Int×Unit):Ln.R:=
 br (decide (s.1.2.2.2.1< ((s.1.2.2.1.2:Nat):Int))) (iteP (0<=s.1.2.2.2.1/\s.1.2.2.2.1< ((s.1.2.2.1.2:Nat):Int)) ((s.2.2.1[(s.1.2.2.1.1+s.1.2.2.2.1.toNat)]?).bind λx9=>iteP (0<=(IntKind.wrap .i64 (s.1.2.2.2.1-1))/\(IntKind.wrap .i64 (s.1.2.2.2.1-1))< ((s.1.2.2.1.2:Nat):Int)) ((s.2.2.1[(s.1.2.2.1.1+(IntKind.wrap .i64 (s.1.2.2.2.1-1)).toNat)]?).bind λx10=>br (!(x9==x10)) (iteP (0<=s.1.2.2.2.1/\s.1.2.2.2.1< ((s.1.2.2.1.2:Nat):Int)) ((s.2.2.1[(s.1.2.2.1.1+s.1.2.2.2.1.toNat)]?).bind λx11=>iteP (0<=s.1.2.1/\s.1.2.1< (s.2.2.1.length:Int)) ((s.2.2.1[s.1.2.1.toNat]?).bind λ_=>some (.inl (((),(IntKind.wrap .i64 (s.1.2.1+1)),s.1.2.2.1,(IntKind.wrap .i64 (s.1.2.2.2.1+1)),()),(()),(s.2.2.1.set s.1.2.1.toNat x11),()))) none) none) (some (.inl (((),s.1.2.1,s.1.2.2.1,(IntKind.wrap .i64 (s.1.2.2.2.1+1)),()),(()),s.2.2)))) none) none) (some (.inr (((),s.1.2.1,()),(()),s.2.2)))
def OQ:=md I2
def OW[dL] :=H3 Tryz.f227 [0,0] Ln I2 [] [] (by kernel_rfl) λs=>by simp only[I2,tm];kernel_rfl
abbrev Lm:LX:=⟨⟨[Oj,NC],[],Iw,0,61⟩,[(.ret,⟨[Oj,(2,.cl (.sub 0 (.i .i64)))],[],Iw,0,61⟩),(.ext 0,⟨[Oj,OS],[],Iw,0,61⟩)],[],[0,3],[0,2]⟩
def Gw(s:Uc×Unit×List Int×Unit):Lm.R:=
 br (decide (s.1.2.1< (s.2.2.1.length:Int))) (iteP (0<=s.1.2.1/\s.1.2.1< (s.2.2.1.length:Int)) ((s.2.2.1[s.1.2.1.toNat]?).bind λx3=>iteP (0<=(IntKind.wrap .i64 (s.1.2.1-1))/\(IntKind.wrap .i64 (s.1.2.1-1))< (s.2.2.1.length:Int)) ((s.2.2.1[(IntKind.wrap .i64 (s.1.2.1-1)).toNat]?).bind λx4=>br (x3==x4) (iteP (0<=s.1.2.1/\s.1.2.1<=(s.2.2.1.length:Int)/\(s.2.2.1.length:Int)<=((s.2.2.1.length:Nat):Int)) ((OQ (((),s.1.2.1,((0+s.1.2.1.toNat),((s.2.2.1.length:Int).toNat-s.1.2.1.toNat)),1,()),(()),s.2.2)).bind λe16=>iteP (0<=e16.1.2.1/\e16.1.2.1<=(e16.2.2.1.length:Int)/\(e16.2.2.1.length:Int)<=((e16.2.2.1.length:Nat):Int)) (iteP ((0+e16.1.2.1.toNat)+((e16.2.2.1.length:Int).toNat-e16.1.2.1.toNat)<=e16.2.2.1.length) (iteP (0<=(0:Int)/\(0:Int)<=e16.1.2.1/\e16.1.2.1<=((e16.2.2.1.length:Nat):Int)) (some (.inr (.inl (((),((0+(0:Int).toNat),(e16.1.2.1.toNat-(0:Int).toNat)),()),(()),(e16.2.2.1.take (0+e16.1.2.1.toNat)++List.replicate ((e16.2.2.1.length:Int).toNat-e16.1.2.1.toNat) (0:Int)++e16.2.2.1.drop ((0+e16.1.2.1.toNat)+((e16.2.2.1.length:Int).toNat-e16.1.2.1.toNat))),())))) none) none) none) none) (some (.inl (((),(IntKind.wrap .i64 (s.1.2.1+1)),()),(()),s.2.2)))) none) none) (some (.inr (.inr (((),(),()),(()),s.2.2))))
def Lk:=md Gw
def OV[dL] :=H3 Tryz.f227 [0] Lm Gw [] [OW] (by kernel_rfl) λs=>by simp only[Gw,tm];kernel_rfl
def Hy(a0:List Int):Option ((List Int)×Unit):=
 br (decide ((a0.length:Int)<2)) (some (a0,())) ((Lk (((),1,()),(()),a0,())).bind λe17=>Sum.elim (λe17_0=>iteP (e17_0.1.2.1.1=0/\e17_0.1.2.1.2<=e17_0.2.2.1.length) (some ((e17_0.2.2.1.take e17_0.1.2.1.2),())) (iteP (e17_0.1.2.1.1+e17_0.1.2.1.2<=e17_0.2.2.1.length) (some (((e17_0.2.2.1.drop e17_0.1.2.1.1).take e17_0.1.2.1.2),())) none)) (λe17_1=>some e17_1.2.2) e17)
def P4[dL] :=coM 227 Tryz.f227 (.i .i64) [] LF (λl _=>Hy l) [] [OV] (by kernel_rfl) λl x=>by simp only[Hy,tm,-eq_self];kernel_rfl
def KR(a0:List Int):Option ((List Int)×Unit):=
 (IZ a0).bind λy1=>(II y1.1).bind λy2=>iteP (y2.1.length=y1.1.length) ((Hy y2.1).bind λy3=>some (y3.1,())) none
def Uz[dL] :=Fz 195 Tryz.f195 VG LF (λx=>KR x.1) [TU,RY,P4] [] (by kernel_rfl) λx=>by simp only[KR,tm,-eq_self];kernel_rfl
def Gx(a0:Int)(a1:List Int):Option (Bool×Unit):=
 (Hu a1 a0).bind λy1=>some (y1.1,())
def Lj[dL] :=Fz 244 Tryz.f244 [.ty (.i .i64),.pr (.ls (.i .i64))] [.b] (λx=>Gx x.1 x.2.1) [Mz] [] (by kernel_rfl) λx=>by simp only[Gx,tm];kernel_rfl
abbrev GR:LX:=⟨⟨[Ng,(1,.fn 244 [.pro (.ls (.i .i64))]),Mg,Qa],[],[],0,19⟩,[(.ret,⟨[NB],[],[],0,19⟩),(.ext 0,⟨[Oi],[],[],0,19⟩)],[],[0,1,7,8],[4]⟩
def Fo(s: (List Int×(List Int×Unit)×Int×Int×Unit)×Unit×Unit):GR.R:=
 br (decide (s.1.2.2.2.1<s.1.2.2.1)) (iteP (0<=s.1.2.2.2.1) ((s.1.1[s.1.2.2.2.1.toNat]?).bind λx5=>(Gx x5 s.1.2.1.1).bind λy6=>br y6.1 (some (.inr (.inl (s.1.2.2.2,(()),(()))))) (some (.inl ((s.1.1,s.1.2.1,s.1.2.2.1,(IntKind.wrap .i64 (s.1.2.2.2.1+1)),()),(()),(()))))) none) (some (.inr (.inr (((),()),(()),(())))))
def F5:=md Fo
def I1[dL] :=H3 Tryz.f171 [0] GR Fo [Lj] [] (by kernel_rfl) λs=>by simp only[Fo,tm];kernel_rfl
def FM(a0:List Int)(a1_0:List Int):Option (Int×Unit):=
 (F5 ((a0,(a1_0,()),(a0.length:Int),0,()),(()),(()))).bind λe7=>Sum.elim (λe7_0=>some e7_0.1) (λ_=>some ((-1),())) e7
def Je[dL] :=Fz 171 Tryz.f171 [.ty (.ls (.i .i64)),.fn 244 LF] Ke (λx=>FM x.1 x.2.1.1) [] [I1] (by kernel_rfl) λx=>by simp only[FM,tm];kernel_rfl
abbrev GC:LX:=⟨⟨[Oj,(1,.fn 244 [.pro (.ls (.i .i64))]),K6,MD],[],Iw,0,42⟩,[(.ext 0,⟨[Oj,K6],[],Iw,0,42⟩)],[],[0,1,5,6],[0,5]⟩
def Fj(s: (Unit×(List Int×Unit)×Int×Int×Unit)×Unit×List Int×Unit):GC.R:=
 br (decide (s.1.2.2.2.1< (s.2.2.1.length:Int))) (iteP (0<=s.1.2.2.2.1/\s.1.2.2.2.1< (s.2.2.1.length:Int)) ((s.2.2.1[s.1.2.2.2.1.toNat]?).bind λx6=>(Gx x6 s.1.2.1.1).bind λy7=>br (!y7.1) (iteP (0<=s.1.2.2.1/\s.1.2.2.1< (s.2.2.1.length:Int)) ((s.2.2.1[s.1.2.2.1.toNat]?).bind λ_=>some (.inl (((),s.1.2.1,(IntKind.wrap .i64 (s.1.2.2.1+1)),(IntKind.wrap .i64 (s.1.2.2.2.1+1)),()),(()),(s.2.2.1.set s.1.2.2.1.toNat x6),()))) none) (some (.inl (((),s.1.2.1,s.1.2.2.1,(IntKind.wrap .i64 (s.1.2.2.2.1+1)),()),(()),s.2.2)))) none) (some (.inr (((),s.1.2.2.1,()),(()),s.2.2)))
def GB:=md Fj
def Il[dL] :=H3 Tryz.f243 [0] GC Fj [Lj] [] (by kernel_rfl) λs=>by simp only[Fj,tm];kernel_rfl
def Ft(a0:List Int)(a1_0:List Int):Option ((List Int)×Unit):=
 (FM a0 a1_0).bind λy1=>br (y1.1==(-1)) (some (a0,())) ((GB (((),(a1_0,()),y1.1,(IntKind.wrap .i64 (y1.1+1)),()),(()),a0,())).bind λe12=>iteP (0<=e12.1.2.1/\e12.1.2.1<=(e12.2.2.1.length:Int)/\(e12.2.2.1.length:Int)<=((e12.2.2.1.length:Nat):Int)) (iteP ((0+e12.1.2.1.toNat)+((e12.2.2.1.length:Int).toNat-e12.1.2.1.toNat)<=e12.2.2.1.length) (iteP (0<=(0:Int)/\(0:Int)<=e12.1.2.1/\e12.1.2.1<=((e12.2.2.1.length:Nat):Int)) (iteP ((0+(0:Int).toNat)=0/\(e12.1.2.1.toNat-(0:Int).toNat)<=(e12.2.2.1.take (0+e12.1.2.1.toNat)++List.replicate ((e12.2.2.1.length:Int).toNat-e12.1.2.1.toNat) (0:Int)++e12.2.2.1.drop ((0+e12.1.2.1.toNat)+((e12.2.2.1.length:Int).toNat-e12.1.2.1.toNat))).length) (some (((e12.2.2.1.take (0+e12.1.2.1.toNat)++List.replicate ((e12.2.2.1.length:Int).toNat-e12.1.2.1.toNat) (0:Int)++e12.2.2.1.drop ((0+e12.1.2.1.toNat)+((e12.2.2.1.length:Int).toNat-e12.1.2.1.toNat))).take (e12.1.2.1.toNat-(0:Int).toNat)),())) (iteP ((0+(0:Int).toNat)+(e12.1.2.1.toNat-(0:Int).toNat)<=(e12.2.2.1.take (0+e12.1.2.1.toNat)++List.replicate ((e12.2.2.1.length:Int).toNat-e12.1.2.1.toNat) (0:Int)++e12.2.2.1.drop ((0+e12.1.2.1.toNat)+((e12.2.2.1.length:Int).toNat-e12.1.2.1.toNat))).length) (some ((((e12.2.2.1.take (0+e12.1.2.1.toNat)++List.replicate ((e12.2.2.1.length:Int).toNat-e12.1.2.1.toNat) (0:Int)++e12.2.2.1.drop ((0+e12.1.2.1.toNat)+((e12.2.2.1.length:Int).toNat-e12.1.2.1.toNat))).drop (0+(0:Int).toNat)).take (e12.1.2.1.toNat-(0:Int).toNat)),())) none)) none) none) none)
def Iz[dL] :=coM 243 Tryz.f243 (.i .i64) [.fn 244 LF] LF (λl x=>Ft l x.1.1) [Je] [Il] (by kernel_rfl) λl x=>by simp only[Ft,tm,-eq_self];kernel_rfl
def G4(a0:List Int)(a1:List Int):Option ((List Int)×Unit):=
 (KR a0).bind λy1=>(Ft y1.1 a1).bind λy2=>some (y2.1,())
def Qm[dL] :=Fz 225 Tryz.f225 Ub LF (λx=>G4 x.1 x.2.1) [Uz,Iz] [] (by kernel_rfl) λx=>by simp only[G4,tm];kernel_rfl
def Ie(a0:List Int)(a1:List Int):Option ((List Int)×Unit):=
 (G4 a0 a1).bind λy1=>(G4 a0 y1.1).bind λy2=>some (y2.1,())
def Q4[dL] :=Fz 194 Tryz.f194 Ub LF (λx=>Ie x.1 x.2.1) [Qm] [] (by kernel_rfl) λx=>by simp only[Ie,tm];kernel_rfl
def Hi(a0:om):Option (Bool×Unit):=
 (Fm a0.epoch 1 20).bind λy1=>br y1.1 ((GW a0.replicas).bind λy2=>br y2.1 ((GW a0.witnesses).bind λy3=>br y3.1 ((Hu a0.replicas a0.primary).bind λy4=>br y4.1 ((Ie a0.replicas a0.witnesses).bind λy5=>some (((y5.1.length:Int)==0),())) (some (false,()))) (some (false,()))) (some (false,()))) (some (false,()))
def NG[dL] :=Fz 121 Tryz.f121 WG [.b] (λx=>Hi x.1) [Hc,TC,Mz,Q4] [] (by kernel_rfl) λx=>by simp only[Hi,tm];kernel_rfl
abbrev NN:LX:=⟨⟨[Kd,(6,.cl (.ro (.st .config))),Mg,Qa],[VH],[],0,30⟩,[(.ret,⟨[Kd,MC],[VH],[],0,30⟩),(.ext 0,⟨[Kd,OS],[VH],[],0,30⟩)],[],[1,6,7,8],[1,2]⟩
def Hg(s: (Unit×List om×Int×Int×Unit)×(ZO×Unit)×Unit):NN.R:=
 br (decide (s.1.2.2.2.1<s.1.2.2.1)) (iteP (0<=s.1.2.2.2.1) ((s.1.2.1[s.1.2.2.2.1.toNat]?).bind λx6=>(Hi x6).bind λy7=>br (!y7.1) (some (.inr (.inl (((),false,()),s.2.1,(()))))) (br (!(x6.epoch==(IntKind.wrap .i64 (s.1.2.2.2.1+1)))) (some (.inr (.inl (((),false,()),s.2.1,(()))))) (some (.inl (((),s.1.2.1,s.1.2.2.1,(IntKind.wrap .i64 (s.1.2.2.2.1+1)),()),s.2.1,(())))))) none) (some (.inr (.inr (((),(),()),s.2.1,(())))))
def Lc:=md Hg
def Rm[dL] :=H3 Tryz.f138 [0] NN Hg [NG] [] (by kernel_rfl) λs=>by simp only[Hg,tm];kernel_rfl
def Iq(a0:kB):Option (Bool×Unit):=
 (Lc (((),a0.configs,(a0.configs.length:Int),0,()),((a0.configs,a0.activated,()),()),(()))).bind λe8=>Sum.elim (λe8_0=>some e8_0.1.2) (λe8_1=>(Fm e8_1.2.1.1.2.1 0 (e8_1.2.1.1.1.length:Int)).bind λy9=>some (y9.1,())) e8
def OY[dL] :=Fz 138 Tryz.f138 WH [.b] (λx=>Iq x.1) [Hc] [Rm] (by kernel_rfl) λx=>by simp only[Iq,tm];kernel_rfl
def Ip(a0:vz):Option (Bool×Unit):=
 br ((a0.epoch==0)&&((a0.holder==0)&&((a0.ends==0)&&true))) (some (true,())) ((Fm a0.epoch 1 20).bind λy1=>br y1.1 ((Fm a0.holder 0 4).bind λy2=>br y2.1 ((Fm a0.ends 1 1049).bind λy3=>some (y3.1,())) (some (false,()))) (some (false,())))
def Ww[dL] :=Fz 134 Tryz.f134 XA [.b] (λx=>Ip x.1) [Hc] [] (by kernel_rfl) λx=>by simp only[Ip,tm];kernel_rfl
def JN(a0:vB):Option (Bool×Unit):=
 (Fm a0.rack 0 9).bind λy1=>br (!y1.1) (some (true,())) ((Fm a0.capacity 0 9).bind λy2=>br (!y2.1) (some (true,())) ((Fm a0.load 0 99).bind λy3=>some ((!y3.1),())))
def RD[dL] :=Fz 209 Tryz.f209 [.ty (.st .place)] [.b] (λx=>JN x.1) [Hc] [] (by kernel_rfl) λx=>by simp only[JN,tm];kernel_rfl
abbrev He:LX:=⟨⟨[R3,(1,.cl (.fc 209)),Mg,Qa],[],[],0,19⟩,[(.ret,⟨[NB],[],[],0,19⟩),(.ext 0,⟨[Oi],[],[],0,19⟩)],[],[0,1,7,8],[4]⟩
def Fs(s: (List vB×Unit×Int×Int×Unit)×Unit×Unit):He.R:=
 br (decide (s.1.2.2.2.1<s.1.2.2.1)) (iteP (0<=s.1.2.2.2.1) ((s.1.1[s.1.2.2.2.1.toNat]?).bind λx4=>(JN x4).bind λy5=>br y5.1 (some (.inr (.inl (s.1.2.2.2,(()),(()))))) (some (.inl ((s.1.1,(),s.1.2.2.1,(IntKind.wrap .i64 (s.1.2.2.2.1+1)),()),(()),(()))))) none) (some (.inr (.inr (((),()),(()),(())))))
def Gg:=md Fs
def Ju[dL] :=H3 Tryz.f230 [0] He Fs [RD] [] (by kernel_rfl) λs=>by simp only[Fs,tm];kernel_rfl
def FT(a0:List vB):Option (Int×Unit):=
 (Gg ((a0,(),(a0.length:Int),0,()),(()),(()))).bind λe6=>Sum.elim (λe6_0=>some e6_0.1) (λ_=>some ((-1),())) e6
def J1[dL] :=Fz 230 Tryz.f230 Zc Ke (λx=>FT x.1) [] [Ju] (by kernel_rfl) λx=>by simp only[FT,tm];kernel_rfl
def FL(a0:List vB):Option (Bool×Unit):=
 (FT a0).bind λy1=>some ((decide (y1.1≥0)),())
def Jd[dL] :=Fz 208 Tryz.f208 Zc [.b] (λx=>FL x.1) [J1] [] (by kernel_rfl) λx=>by simp only[FL,tm];kernel_rfl
def Jx(a0:List vB):Option (Bool×Unit):=
 br ((a0.length:Int)==5) ((FL a0).bind λy1=>some ((!y1.1),())) (some (false,()))
def Uw[dL] :=Fz 155 Tryz.f155 Xz [.b] (λx=>Jx x.1) [Jd] [] (by kernel_rfl) λx=>by simp only[Jx,tm];kernel_rfl
def Jy(a0:Op):Option (Bool×Unit):=
 (Fm a0.client 0 2).bind λy1=>br (!y1.1) (some (false,())) ((Fm a0.seq 1 99).bind λy2=>br (!y2.1) (some (false,())) ((Fm a0.object 0 2).bind λy3=>br (!y3.1) (some (false,())) ((Fm a0.value 0 9).bind λy4=>br (!y4.1) (some (false,())) (br (a0.kind==1) (br (a0.old==0) (some (true,())) (br (a0.kind==2) ((Fm a0.old 0 9).bind λy5=>some (y5.1,())) (some (false,())))) (br (a0.kind==2) ((Fm a0.old 0 9).bind λy6=>some (y6.1,())) (some (false,())))))))
def Ux[dL] :=Fz 203 Tryz.f203 V6 [.b] (λx=>Jy x.1) [Hc] [] (by kernel_rfl) λx=>by simp only[Jy,tm];kernel_rfl
abbrev To:LX:=⟨⟨[OT,(5,.cl (.ro (.st .entry))),MD,Mg],[],[],0,41⟩,[(.ret,⟨[OT,MC],[],[],0,41⟩),(.ext 0,⟨[OT,OS],[],[],0,41⟩)],[],[0,5,6,7],[0,2]⟩
def LH(s:Zp×Unit×Unit):To.R:=
 br (decide (s.1.2.2.2.1<s.1.2.2.1)) (iteP (0<=s.1.2.2.2.1) ((s.1.2.1[s.1.2.2.2.1.toNat]?).bind λx5=>(Fm x5.epoch 1 20).bind λy6=>br (!y6.1) (some (.inr (.inl ((s.1.1,false,()),(()),(()))))) (br (decide (s.1.2.2.2.1>0)) (iteP (0<=(IntKind.wrap .i64 (s.1.2.2.2.1-1))) ((s.1.1[(IntKind.wrap .i64 (s.1.2.2.2.1-1)).toNat]?).bind λx7=>br (decide (x5.epoch<x7.epoch)) (some (.inr (.inl ((s.1.1,false,()),(()),(()))))) ((Jy x5.op).bind λy8=>br (!y8.1) (some (.inr (.inl ((s.1.1,false,()),(()),(()))))) (some (.inl ((s.1.1,s.1.2.1,s.1.2.2.1,(IntKind.wrap .i64 (s.1.2.2.2.1+1)),()),(()),(())))))) none) ((Jy x5.op).bind λy9=>br (!y9.1) (some (.inr (.inl ((s.1.1,false,()),(()),(()))))) (some (.inl ((s.1.1,s.1.2.1,s.1.2.2.1,(IntKind.wrap .i64 (s.1.2.2.2.1+1)),()),(()),(()))))))) none) (some (.inr (.inr ((s.1.1,(),()),(()),(())))))
def Qu:=md LH
def WP[dL] :=H3 Tryz.f140 [0] To LH [Hc,Ux] [] (by kernel_rfl) λs=>by simp only[LH,tm];kernel_rfl
def JO(a0:List sf):Option (Bool×Unit):=
 (Qu ((a0,a0,(a0.length:Int),0,()),(()),(()))).bind λe10=>Sum.elim (λe10_0=>some e10_0.1.2) (λe10_1=>some ((decide ((e10_1.1.1.length:Int)<=16)),())) e10
def TD[dL] :=Fz 140 Tryz.f140 Rj [.b] (λx=>JO x.1) [] [WP] (by kernel_rfl) λx=>by simp only[JO,tm];kernel_rfl
abbrev Oy:LX:=⟨⟨[Ng,O4,P9,(13,.cl (.int .i64))],[],[],0,26⟩,[(.ret,⟨[Oh],[],[],0,26⟩),(.ext 0,⟨[Oi],[],[],0,26⟩)],[],[0,1,12,13],[4]⟩
def HQ(s:Zo×Unit×Unit):Oy.R:=
 br (decide (s.1.2.2.2.1<s.1.2.2.1)) (iteP (0<=s.1.2.2.2.1) ((s.1.1[s.1.2.2.2.1.toNat]?).bind λx5=>iteP (0<=s.1.2.2.2.1) ((s.1.2.1[s.1.2.2.2.1.toNat]?).bind λx6=>br (!(x5==x6)) (some (.inr (.inl ((false,()),(()),(()))))) (some (.inl ((s.1.1,s.1.2.1,s.1.2.2.1,(IntKind.wrap .i64 (s.1.2.2.2.1+1)),()),(()),(()))))) none) none) (some (.inr (.inr (((),()),(()),(())))))
def Md:=md HQ
def Sv[dL] :=H3 Tryz.f74 [0] Oy HQ [] [] (by kernel_rfl) λs=>by simp only[HQ,tm];kernel_rfl
def Lx(a0:List Int)(a1:List Int):Option (Bool×Unit):=
 br (!((a0.length:Int)==(a1.length:Int))) (some (false,())) ((Md ((a0,a1,(a0.length:Int),0,()),(()),(()))).bind λe7=>Sum.elim (λe7_0=>some e7_0.1) (λ_=>some (true,())) e7)
def TV[dL] :=Fz 74 Tryz.f74 Ub [.b] (λx=>Lx x.1 x.2.1) [] [Sv] (by kernel_rfl) λx=>by simp only[Lx,tm];kernel_rfl
def HU(a0:List Int)(a1:List Int):Option (Bool×Unit):=
 (Lx a0 a1).bind λy1=>some (y1.1,())
def RH[dL] :=Fz 206 Tryz.f206 Ub [.b] (λx=>HU x.1 x.2.1) [TV] [] (by kernel_rfl) λx=>by simp only[HU,tm];kernel_rfl
def G7(a0:om)(a1:om):Option (Bool×Unit):=
 br (a0.epoch==a1.epoch) (br (a0.primary==a1.primary) ((HU a0.replicas a1.replicas).bind λy1=>br y1.1 ((HU a0.witnesses a1.witnesses).bind λy2=>some (y2.1,())) (some (false,()))) (some (false,()))) (some (false,()))
def N7[dL] :=Fz 151 Tryz.f151 Y1 [.b] (λx=>G7 x.1 x.2.1) [RH] [] (by kernel_rfl) λx=>by simp only[G7,tm];kernel_rfl
def Jz(a0:List sf):Option (Int×Unit):=
 br ((a0.length:Int)==0) (some (0,())) (iteP (0<=(IntKind.wrap .i64 ((a0.length:Int)-1))) ((a0[(IntKind.wrap .i64 ((a0.length:Int)-1)).toNat]?).bind λx1=>some (x1.epoch,())) none)
def QL[dL] :=Fz 141 Tryz.f141 Rj Ke (λx=>Jz x.1) [] [] (by kernel_rfl) λx=>by simp only[Jz,tm];kernel_rfl
def MV(a0:om)(a1:Int):Option (Int×Unit):=
 (Hi a0).bind λy1=>br (!y1.1) (some (0,())) (br (a1==a0.primary) (some (1,())) ((Hu a0.replicas a1).bind λy2=>br y2.1 (some (2,())) ((Hu a0.witnesses a1).bind λy3=>br y3.1 (some (3,())) (some (0,())))))
def Xj[dL] :=Fz 123 Tryz.f123 Y2 Ke (λx=>MV x.1 x.2.1) [NG,Mz] [] (by kernel_rfl) λx=>by simp only[MV,tm];kernel_rfl
def LO(a0:Int)(a1:List sf):Option (Bool×Unit):=
 (JO a1).bind λy1=>br y1.1 (br (decide ((a1.length:Int)<=3)) ((Fm a0 0 (IntKind.wrap .i64 (16-(a1.length:Int)))).bind λy2=>br y2.1 (br (a0==0) (some (true,())) (some (((a1.length:Int)==3),()))) (some (false,()))) (some (false,()))) (some (false,()))
def UB[dL] :=Fz 172 Tryz.f172 Y6 [.b] (λx=>LO x.1 x.2.1) [TD,Hc] [] (by kernel_rfl) λx=>by simp only[LO,tm];kernel_rfl
def Hj(a0:qQ)(a1:Int):Option (Bool×Unit):=
 (Fm a0.version 1 2).bind λy1=>br (!y1.1) (some (false,())) ((Fm a0.epoch 0 20).bind λy2=>br (!y2.1) (some (false,())) ((JO a0.log).bind λy3=>br (!y3.1) (some (false,())) ((JO a0.learned).bind λy4=>br (!y4.1) (some (false,())) ((Fm a0.first 0 16).bind λy5=>br (!y5.1) (some (false,())) (br (decide ((IntKind.wrap .i64 (a0.first+(a0.log.length:Int)))>16)) (some (false,())) ((Fm a0.commit 0 (IntKind.wrap .i64 (a0.first+(a0.log.length:Int)))).bind λy6=>br (!y6.1) (some (false,())) ((G7 a0.config (⟨0,0,([]:List Int),([]:List Int)⟩:om)).bind λy7=>br y7.1 (br (a0.first==0) (br (a0.commit==0) (some (((a0.log.length:Int)==0),())) (some (false,()))) (some (false,()))) (br (!a0.intact) (some (false,())) (br (decide (a0.epoch<a0.config.epoch)) (some (false,())) ((Jz a0.log).bind λy8=>br (decide (y8.1>a0.config.epoch)) (some (false,())) ((MV a0.config a1).bind λy9=>br (y9.1==1) (some ((a0.first==0),())) (br (y9.1==2) (some ((a0.first==0),())) (br (y9.1==3) ((LO a0.first a0.log).bind λy12=>some (y12.1,())) (some (false,())))))))))))))))
def Q5[dL] :=Fz 156 Tryz.f156 UR [.b] (λx=>Hj x.1 x.2.1) [Hc,TD,N7,QL,Xj,UB] [] (by kernel_rfl) λx=>by simp only[Hj,tm];kernel_rfl
def Gt(a0:om):Option (om×Unit):=
 iteP ((([]:List Int)++a0.replicas).length*8<=2 ^ 40) (iteP ((([]:List Int)++a0.witnesses).length*8<=2 ^ 40) (some ((⟨a0.epoch,a0.primary,(([]:List Int)++a0.replicas),(([]:List Int)++a0.witnesses)⟩:om),())) none) none
def TE[dL] :=Fz 139 Tryz.f139 WG YH (λx=>Gt x.1) [] [] (by kernel_rfl) λx=>by simp only[Gt,tm];kernel_rfl
def IB(a0:kB)(a1:Int):Option (om×Bool×Unit):=
 (Iq a0).bind λy1=>br (!y1.1) (some ((⟨0,0,([]:List Int),([]:List Int)⟩:om),false,())) ((Fm a1 1 (a0.configs.length:Int)).bind λy2=>br (!y2.1) (some ((⟨0,0,([]:List Int),([]:List Int)⟩:om),false,())) (iteP (0<=(IntKind.wrap .i64 (a1-1))) ((a0.configs[(IntKind.wrap .i64 (a1-1)).toNat]?).bind λx3=>(Gt x3).bind λy4=>some (y4.1,true,())) none))
def RG[dL] :=Fz 157 Tryz.f157 XB WJ (λx=>IB x.1 x.2.1) [OY,Hc,TE] [] (by kernel_rfl) λx=>by simp only[IB,tm];kernel_rfl
abbrev Mh:LX:=⟨⟨[Kd,(57,.cl (.ro (.st .server))),(58,.cl (.int .i64)),(59,.cl (.int .i64))],[JG],[],0,118⟩,[(.ret,⟨[MC],[],[],0,118⟩),(.ext 0,⟨[OS],[],[],0,118⟩)],[],[1,57,58,59],[2]⟩
def GG(s: (Unit×List qQ×Int×Int×Unit)×(MN×Unit)×Unit):Mh.R:=
 br (decide (s.1.2.2.2.1<s.1.2.2.1)) (iteP (0<=s.1.2.2.2.1) ((s.1.2.1[s.1.2.2.2.1.toNat]?).bind λx20=>(Hj x20 s.1.2.2.2.1).bind λy21=>br (!y21.1) (some (.inr (.inl ((false,()),(()),(()))))) (br (decide (x20.epoch>(s.2.1.1.2.2.2.1.length:Int))) (some (.inr (.inl ((false,()),(()),(()))))) ((Jz x20.learned).bind λy22=>br (decide (y22.1>s.2.1.1.2.2.2.2.1)) (some (.inr (.inl ((false,()),(()),(()))))) ((G7 x20.config (⟨0,0,([]:List Int),([]:List Int)⟩:om)).bind λy23=>br y23.1 (some (.inl (((),s.1.2.1,s.1.2.2.1,(IntKind.wrap .i64 (s.1.2.2.2.1+1)),()),s.2.1,(())))) ((IB (⟨s.2.1.1.2.2.2.1,s.2.1.1.2.2.2.2.1⟩:kB) x20.config.epoch).bind λy24=>br (!y24.2.1) (some (.inr (.inl ((false,()),(()),(()))))) ((G7 y24.1 x20.config).bind λy25=>br (!y25.1) (some (.inr (.inl ((false,()),(()),(()))))) (br (decide (x20.config.epoch>s.2.1.1.2.2.2.2.1)) (some (.inr (.inl ((false,()),(()),(()))))) (some (.inl (((),s.1.2.1,s.1.2.2.1,(IntKind.wrap .i64 (s.1.2.2.2.1+1)),()),s.2.1,(()))))))))))) none) (some (.inr (.inr (((),()),(()),(())))))
def Jt:=md GG
def Pw[dL] :=H3 Tryz.f77 [0] Mh GG [Q5,QL,N7,RG] [] (by kernel_rfl) λs=>by simp only[GG,tm];kernel_rfl
def Gh(a0:qN):Option (Bool×Unit):=
 (Fm a0.now 0 999).bind λy1=>br (!y1.1) (some (false,())) (br (!((a0.servers.length:Int)==5)) (some (false,())) ((Jo a0.sides).bind λy2=>br (!y2.1) (some (false,())) ((Iq a0.master).bind λy3=>br (!y3.1) (some (false,())) ((Ip a0.lease).bind λy4=>br (!y4.1) (some (false,())) ((Jx a0.places).bind λy5=>br (!y5.1) (some (false,())) ((Fm a0.masterUp 0 3).bind λy6=>br (!y6.1) (some (false,())) (br (decide (a0.lease.epoch>a0.master.activated)) (some (false,())) ((Jt (((),a0.servers,(a0.servers.length:Int),0,()),((a0.now,a0.servers,a0.sides,a0.master.configs,a0.master.activated,a0.masterUp,a0.lease.epoch,a0.lease.holder,a0.lease.ends,a0.places,()),()),(()))).bind λe26=>Sum.elim (λe26_0=>some e26_0.1) (λ_=>some (true,())) e26))))))))
def M3[dL] :=Fz 77 Tryz.f77 SW [.b] (λx=>Gh x.1) [Hc,RE,OY,Ww,Uw] [Pw] (by kernel_rfl) λx=>by simp only[Gh,tm];kernel_rfl
def FA(a0:qN)(a1:Int):Option (Bool×Unit):=
 (Gh a0).bind λy1=>br y1.1 ((Fm a1 0 4).bind λy2=>some (y2.1,())) (some (false,()))
def MH[dL] :=Fz 92 Tryz.f92 LD [.b] (λx=>FA x.1 x.2.1) [M3,Hc] [] (by kernel_rfl) λx=>by simp only[FA,tm];kernel_rfl
def FI(a0:kB):Option (om×Bool×Unit):=
 (IB a0 a0.activated).bind λy1=>some (y1.1,y1.2.1,())
def La[dL] :=Fz 94 Tryz.f94 WH WJ (λx=>FI x.1) [RG] [] (by kernel_rfl) λx=>by simp only[FI,tm];kernel_rfl
def Kh(a0:List Int)(a1:Int)(a2:Int):Option (Bool×Unit):=
 (Jo a0).bind λy1=>br y1.1 ((Fm a1 0 4).bind λy2=>br y2.1 ((Fm a2 0 4).bind λy3=>br y3.1 (iteP (0<=a1) ((a0[a1.toNat]?).bind λx4=>iteP (0<=a2) ((a0[a2.toNat]?).bind λx5=>some ((x4==x5),())) none) none) (some (false,()))) (some (false,()))) (some (false,()))
def RI[dL] :=Fz 100 Tryz.f100 XC [.b] (λx=>Kh x.1 x.2.1 x.2.2.1) [RE,Hc] [] (by kernel_rfl) λx=>by simp only[Kh,tm];kernel_rfl
def Ki(a0:qN)(a1:Int)(a2:Int)(a3:Int):Option (Bool×Unit):=
 iteP (0<=a2) ((a0.servers[a2.toNat]?).bind λx1=>br x1.up ((Kh a0.sides a1 a2).bind λy2=>br y2.1 (some ((x1.config.epoch==a3),())) (some (false,()))) (some (false,()))) none
def RJ[dL] :=Fz 95 Tryz.f95 Y8 [.b] (λx=>Ki x.1 x.2.1 x.2.2.1 x.2.2.2.1) [RI] [] (by kernel_rfl) λx=>by simp only[Ki,tm];kernel_rfl
abbrev Om:LX:=⟨⟨[J6,Nf,Mf,OU,(27,.cl (.own 1 (.i .i64))),(28,.cl (.int .i64)),(29,.cl (.int .i64))],[JG,WM],XX,0,45⟩,[(.ext 0,⟨[Mf],[],Iw,0,45⟩)],[],[1,2,5,6,27,28,29],[5]⟩
def HN(s: (Int×Unit×Unit×Unit×Unit×Int×Int×Unit)×(MN×Qx×Unit)×List Int×List Int×List Int×Unit):Om.R:=
 br (decide (s.1.2.2.2.2.2.2.1<s.1.2.2.2.2.2.1)) (iteP (0<=s.1.2.2.2.2.2.2.1/\s.1.2.2.2.2.2.2.1< (s.2.2.2.1.length:Int)) ((s.2.2.2.1[s.1.2.2.2.2.2.2.1.toNat]?).bind λx21=>(Ki (⟨s.2.1.1.1,s.2.1.1.2.1,s.2.1.1.2.2.1,(⟨s.2.1.1.2.2.2.1,s.2.1.1.2.2.2.2.1⟩:kB),s.2.1.1.2.2.2.2.2.1,(⟨s.2.1.1.2.2.2.2.2.2.1,s.2.1.1.2.2.2.2.2.2.2.1,s.2.1.1.2.2.2.2.2.2.2.2.1⟩:vz),s.2.1.1.2.2.2.2.2.2.2.2.2.1⟩:qN) s.1.1 x21 s.2.1.2.1.1).bind λy22=>br y22.1 (iteP ((s.2.2.1++([x21]:List Int)).length*8<=2 ^ 40) (some (.inl ((s.1.1,(),(),(),(),s.1.2.2.2.2.2.1,(IntKind.wrap .i64 (s.1.2.2.2.2.2.2.1+1)),()),s.2.1,(s.2.2.1++([x21]:List Int)),s.2.2.2))) none) (some (.inl ((s.1.1,(),(),(),(),s.1.2.2.2.2.2.1,(IntKind.wrap .i64 (s.1.2.2.2.2.2.2.1+1)),()),s.2)))) none) (some (.inr (((),()),(()),s.2.2.1,())))
def Ob:=md HN
def Sg[dL] :=H3 Tryz.f23 [0] Om HN [RJ] [] (by kernel_rfl) λs=>by simp only[HN,tm];kernel_rfl
def GM(a0:qN)(a1:Int):Option ((List Int)×Unit):=
 (FI a0.master).bind λy1=>br (!y1.2.1) (some (([]:List Int),())) ((FA a0 a1).bind λy2=>br (!y2.1) (some (([]:List Int),())) ((Ob ((a1,(),(),(),(),(y1.1.replicas.length:Int),0,()),((a0.now,a0.servers,a0.sides,a0.master.configs,a0.master.activated,a0.masterUp,a0.lease.epoch,a0.lease.holder,a0.lease.ends,a0.places,()),(y1.1.epoch,y1.1.primary,(),(),()),()),([]:List Int),y1.1.replicas,y1.1.witnesses,())).bind λe24=>some e24.2.2))
def PT[dL] :=Fz 23 Tryz.f23 LD LF (λx=>GM x.1 x.2.1) [La,MH] [Sg] (by kernel_rfl) λx=>by simp only[GM,tm];kernel_rfl
abbrev Ol:LX:=⟨⟨[Nf,K6,Zg,V9,P9],[JG],Iw,0,38⟩,[(.ext 0,⟨[K6],[],[],0,38⟩)],[],[2,5,10,11,12],[5]⟩
def HM(s: (Unit×Int×Unit×Int×Int×Unit)×(MN×Unit)×List Int×Unit):Ol.R:=
 br (decide (s.1.2.2.2.2.1<s.1.2.2.2.1)) (iteP (0<=s.1.2.2.2.2.1/\s.1.2.2.2.2.1< (s.2.2.1.length:Int)) ((s.2.2.1[s.1.2.2.2.2.1.toNat]?).bind λx16=>br (decide (s.1.2.1<0)) (some (.inl (((),x16,(),s.1.2.2.2.1,(IntKind.wrap .i64 (s.1.2.2.2.2.1+1)),()),s.2))) (iteP (0<=x16) ((s.2.1.1.2.1[x16.toNat]?).bind λx17=>iteP (0<=s.1.2.1) ((s.2.1.1.2.1[s.1.2.1.toNat]?).bind λx18=>br (decide ((x17.log.length:Int)>(x18.log.length:Int))) (some (.inl (((),x16,(),s.1.2.2.2.1,(IntKind.wrap .i64 (s.1.2.2.2.2.1+1)),()),s.2))) (some (.inl (((),s.1.2.1,(),s.1.2.2.2.1,(IntKind.wrap .i64 (s.1.2.2.2.2.1+1)),()),s.2)))) none) none)) none) (some (.inr ((s.1.2.1,()),(()),(()))))
def L8:=md HM
def Sf[dL] :=H3 Tryz.f27 [0] Ol HM [] [] (by kernel_rfl) λs=>by simp only[HM,tm];kernel_rfl
def GL(a0:qN)(a1:Int):Option (Int×Unit):=
 (GM a0 a1).bind λy1=>(L8 (((),(-1),(),(y1.1.length:Int),0,()),((a0.now,a0.servers,a0.sides,a0.master.configs,a0.master.activated,a0.masterUp,a0.lease.epoch,a0.lease.holder,a0.lease.ends,a0.places,()),()),y1.1,())).bind λe20=>some e20.1
def PS[dL] :=Fz 27 Tryz.f27 LD Ke (λx=>GL x.1 x.2.1) [PT] [Sf] (by kernel_rfl) λx=>by simp only[GL,tm];kernel_rfl
def FZ(a0:List sf):Option ((List sf)×Unit):=iteP (a0.length*56<=2 ^ 40) (some (a0,())) none
def L7[dL] :=coC 93 Tryz.f93 (.st .entry) 56 FZ (by kernel_rfl) (λ_=>rfl) λ_=>by kernel_rfl
def Ic(a0:qQ):Option ((List sf)×Unit):=
 br (decide (a0.first<0)) (some (([]:List sf),())) ((Fm a0.commit a0.first (IntKind.wrap .i64 (a0.first+(a0.log.length:Int)))).bind λy1=>br (!y1.1) (some (([]:List sf),())) (iteP (0<=(0:Int)/\(0:Int)<=(IntKind.wrap .i64 (a0.commit-a0.first))/\(IntKind.wrap .i64 (a0.commit-a0.first))<=(a0.log.length:Int)) ((FZ ((a0.log.drop (0:Int).toNat).take ((IntKind.wrap .i64 (a0.commit-a0.first)).toNat-(0:Int).toNat))).bind λy2=>some (y2.1,())) none))
def Q3[dL] :=Fz 136 Tryz.f136 UQ SY (λx=>Ic x.1) [Hc,L7] [] (by kernel_rfl) λx=>by simp only[Ic,tm];kernel_rfl
def KS(a0:qQ)(a1:Int):Option (Bool×Unit):=
 (Hu a0.config.replicas a1).bind λy1=>some (y1.1,())
def UA[dL] :=Fz 118 Tryz.f118 UR [.b] (λx=>KS x.1 x.2.1) [Mz] [] (by kernel_rfl) λx=>by simp only[KS,tm];kernel_rfl
def Hk(a0:qQ)(a1:Int):Option ((List sf)×Unit):=
 (Ic a0).bind λy1=>(KS a0 a1).bind λy2=>br y2.1 (br (decide ((y1.1.length:Int)>(a0.learned.length:Int))) (some (y1.1,())) ((FZ a0.learned).bind λy4=>some (y4.1,()))) ((FZ a0.learned).bind λy5=>some (y5.1,()))
def Q6[dL] :=Fz 60 Tryz.f60 UR SY (λx=>Hk x.1 x.2.1) [Q3,UA,L7] [] (by kernel_rfl) λx=>by simp only[Hk,tm];kernel_rfl
def H2(a1:Int):Option ((List sf)×Unit):=
 br (decide (a1<0)) (none) (br (decide ((IntKind.wrap .i64 (a1-(IntKind.wrap .i64 (0-0))))>0)) (iteP ((0:Int)=0/\(0:Int)=0) (iteP (0< (IntKind.wrap .i64 (a1-(IntKind.wrap .i64 (0-0))))/\(IntKind.wrap .i64 (a1-(IntKind.wrap .i64 (0-0))))*((56:Nat):Int)<=2 ^ 40) (iteP (0<=(0:Int)/\(0:Int)<=(0:Int)/\(0:Int)<=(((IntKind.wrap .i64 (a1-(IntKind.wrap .i64 (0-0)))).toNat:Nat):Int)) (iteP ((0+(0:Int).toNat)=0/\((0:Int).toNat-(0:Int).toNat)<=(List.replicate (IntKind.wrap .i64 (a1-(IntKind.wrap .i64 (0-0)))).toNat (⟨0,(⟨0,0,0,0,0,0⟩:Op)⟩:sf)).length) (some (((List.replicate (IntKind.wrap .i64 (a1-(IntKind.wrap .i64 (0-0)))).toNat (⟨0,(⟨0,0,0,0,0,0⟩:Op)⟩:sf)).take ((0:Int).toNat-(0:Int).toNat)),())) none) none) none) none) (some (([]:List sf),())))
def Qt[dL] :=Fz 212 Tryz.f212 [.nl,.ty (.i .i64)] SY (λx=>H2 x.2.1) [] [] (by kernel_rfl) λx=>by simp only[H2,tm,-eq_self];kernel_rfl
abbrev MF:LX:=⟨⟨[(0,.cl (.ro (.ls (.st .entry)))),NC,(9,.cl (.ro (.ls (.st .entry)))),UU,V9],[],[],0,36⟩,[(.ext 0,⟨[(0,.cl (.ro (.ls (.st .entry)))),NC],[],[],0,36⟩)],[],[0,3,9,10,11],[0,3]⟩
def GQ(s: (List (List sf)×Int×List (List sf)×Int×Int×Unit)×Unit×Unit):MF.R:=
 br (decide (s.1.2.2.2.2.1<s.1.2.2.2.1)) (iteP (0<=s.1.2.2.2.2.1) ((s.1.2.2.1[s.1.2.2.2.2.1.toNat]?).bind λx6=>br (decide ((IntKind.wrap .i64 (s.1.2.1+(x6.length:Int)))<0)) (none) (some (.inl ((s.1.1,(IntKind.wrap .i64 (s.1.2.1+(x6.length:Int))),s.1.2.2.1,s.1.2.2.2.1,(IntKind.wrap .i64 (s.1.2.2.2.2.1+1)),()),(()),(()))))) none) (some (.inr ((s.1.1,s.1.2.1,()),(()),(()))))
def MB:=md GQ
def Qj[dL] :=H3 Tryz.f173 [0] MF GQ [] [] (by kernel_rfl) λs=>by simp only[GQ,tm];kernel_rfl
abbrev Mt:LX:=⟨⟨[Tn,(25,.cl (.ro (.ls (.st .entry)))),(26,.cl (.int .i64)),(27,.cl (.int .i64))],[],YM,0,36⟩,[(.ext 2,⟨[Tn],[],YM,0,36⟩)],[],[6,25,26,27],[6]⟩
def GJ(s: (Unit×List (List sf)×Int×Int×Unit)×Unit×List sf×Unit):Mt.R:=
 br (decide (s.1.2.2.2.1<s.1.2.2.1)) (iteP (0<=s.1.2.2.2.1) ((s.1.2.1[s.1.2.2.2.1.toNat]?).bind λx13=>iteP ((s.2.2.1++x13).length*56<=2 ^ 40) (some (.inl (((),s.1.2.1,s.1.2.2.1,(IntKind.wrap .i64 (s.1.2.2.2.1+1)),()),(()),(s.2.2.1++x13),()))) none) none) (some (.inr (((),()),(()),s.2.2)))
def Mc:=md GJ
def PD[dL] :=H3 Tryz.f173 [1] Mt GJ [] [] (by kernel_rfl) λs=>by simp only[GJ,tm];kernel_rfl
def Hq(a0:List (List sf)):Option ((List sf)×Unit):=
 (MB ((a0,0,a0,(a0.length:Int),0,()),(()),(()))).bind λe7=>(H2 e7.1.2.1).bind λy8=>(Mc (((),e7.1.1,(e7.1.1.length:Int),0,()),(()),y8.1,())).bind λe14=>some e14.2.2
def Rc[dL] :=Fz 173 Tryz.f173 [.ty (.ls (.ls (.st .entry)))] SY (λx=>Hq x.1) [Qt] [Qj,PD] (by kernel_rfl) λx=>by simp only[Hq,tm];kernel_rfl
abbrev Nq:LX:=⟨⟨[OT,XI,P9,(13,.cl (.int .i64))],[],[],0,26⟩,[(.ret,⟨[Oh],[],[],0,26⟩),(.ext 0,⟨[Oi],[],[],0,26⟩)],[],[0,1,12,13],[4]⟩
def G3(s:Zp×Unit×Unit):Nq.R:=
 br (decide (s.1.2.2.2.1<s.1.2.2.1)) (iteP (0<=s.1.2.2.2.1) ((s.1.1[s.1.2.2.2.1.toNat]?).bind λx5=>iteP (0<=s.1.2.2.2.1) ((s.1.2.1[s.1.2.2.2.1.toNat]?).bind λx6=>br (!((x5.epoch==x6.epoch)&&((x5.op.client==x6.op.client)&&((x5.op.seq==x6.op.seq)&&((x5.op.kind==x6.op.kind)&&((x5.op.object==x6.op.object)&&((x5.op.old==x6.op.old)&&((x5.op.value==x6.op.value)&&true)))))))) (some (.inr (.inl ((false,()),(()),(()))))) (some (.inl ((s.1.1,s.1.2.1,s.1.2.2.1,(IntKind.wrap .i64 (s.1.2.2.2.1+1)),()),(()),(()))))) none) none) (some (.inr (.inr (((),()),(()),(())))))
def KA:=md G3
def QG[dL] :=H3 Tryz.f152 [0] Nq G3 [] [] (by kernel_rfl) λs=>by simp only[G3,tm];kernel_rfl
def H1(a0:List sf)(a1:List sf):Option (Bool×Unit):=
 br (!((a0.length:Int)==(a1.length:Int))) (some (false,())) ((KA ((a0,a1,(a0.length:Int),0,()),(()),(()))).bind λe7=>Sum.elim (λe7_0=>some e7_0.1) (λ_=>some (true,())) e7)
def RX[dL] :=Fz 152 Tryz.f152 V7 [.b] (λx=>H1 x.1 x.2.1) [] [QG] (by kernel_rfl) λx=>by simp only[H1,tm];kernel_rfl
def LN(a0:List sf)(a1:Int)(a2:List sf):Option ((List sf)×Bool×Unit):=
 (JO a0).bind λy1=>br (!y1.1) (some (([]:List sf),false,())) ((LO a1 a2).bind λy2=>br (!y2.1) (some (([]:List sf),false,())) (br (decide (a1>(a0.length:Int))) (some (([]:List sf),false,())) (iteP (0<=(if (IntKind.wrap .i64 ((a0.length:Int)-a1))< (a2.length:Int) then (IntKind.wrap .i64 ((a0.length:Int)-a1)) else (a2.length:Int))/\(if (IntKind.wrap .i64 ((a0.length:Int)-a1))< (a2.length:Int) then (IntKind.wrap .i64 ((a0.length:Int)-a1)) else (a2.length:Int))<=(a2.length:Int)/\(a2.length:Int)<=(a2.length:Int)) ((Hq ([a0,((a2.drop (if (IntKind.wrap .i64 ((a0.length:Int)-a1))< (a2.length:Int) then (IntKind.wrap .i64 ((a0.length:Int)-a1)) else (a2.length:Int)).toNat).take ((a2.length:Int).toNat-(if (IntKind.wrap .i64 ((a0.length:Int)-a1))< (a2.length:Int) then (IntKind.wrap .i64 ((a0.length:Int)-a1)) else (a2.length:Int)).toNat))]:List (List sf))).bind λy3=>iteP (0<=a1/\a1<=(IntKind.wrap .i64 (a1+(if (IntKind.wrap .i64 ((a0.length:Int)-a1))< (a2.length:Int) then (IntKind.wrap .i64 ((a0.length:Int)-a1)) else (a2.length:Int))))/\(IntKind.wrap .i64 (a1+(if (IntKind.wrap .i64 ((a0.length:Int)-a1))< (a2.length:Int) then (IntKind.wrap .i64 ((a0.length:Int)-a1)) else (a2.length:Int))))<=(a0.length:Int)) (iteP (0<=(0:Int)/\(0:Int)<=(if (IntKind.wrap .i64 ((a0.length:Int)-a1))< (a2.length:Int) then (IntKind.wrap .i64 ((a0.length:Int)-a1)) else (a2.length:Int))/\(if (IntKind.wrap .i64 ((a0.length:Int)-a1))< (a2.length:Int) then (IntKind.wrap .i64 ((a0.length:Int)-a1)) else (a2.length:Int))<=(a2.length:Int)) ((H1 ((a0.drop a1.toNat).take ((IntKind.wrap .i64 (a1+(if (IntKind.wrap .i64 ((a0.length:Int)-a1))< (a2.length:Int) then (IntKind.wrap .i64 ((a0.length:Int)-a1)) else (a2.length:Int)))).toNat-a1.toNat)) ((a2.drop (0:Int).toNat).take ((if (IntKind.wrap .i64 ((a0.length:Int)-a1))< (a2.length:Int) then (IntKind.wrap .i64 ((a0.length:Int)-a1)) else (a2.length:Int)).toNat-(0:Int).toNat))).bind λy4=>br (!y4.1) (some (([]:List sf),false,())) ((JO y3.1).bind λy5=>br (!y5.1) (some (([]:List sf),false,())) (some (y3.1,true,())))) none) none) none)))
def Vk[dL] :=Fz 101 Tryz.f101 Y7 WK (λx=>LN x.1 x.2.1 x.2.2.1) [TD,UB,Rc,RX] [] (by kernel_rfl) λx=>by simp only[LN,tm];kernel_rfl
abbrev Le:LX:=⟨⟨[J6,Nf,OU,Wd,O6,(12,.cl (.ptr 2 0)),XK,XL,XM,(52,.cl (.ro (.st .server))),(53,.cl (.int .i64)),(54,.cl (.int .i64))],[JG,XW,XU],WN,0,99⟩,[(.ext 2,⟨[J6,Nf,OU,Wd,O6,XK,XL,XM],[JG,XW],WN,0,99⟩)],[],[1,2,6,8,9,12,33,34,35,52,53,54],[1,2,6,8,9,33,34,35]⟩
def Hh(s: (Int×Unit×Unit×Unit×Bool×Unit×Unit×Int×Int×List qQ×Int×Int×Unit)×(MN×Qx×XP×Unit)×List sf×List Int×List Int×Unit):Le.R:=
 br (decide (s.1.2.2.2.2.2.2.2.2.2.2.2.1<s.1.2.2.2.2.2.2.2.2.2.2.1)) (iteP (0<=s.1.2.2.2.2.2.2.2.2.2.2.2.1) ((s.1.2.2.2.2.2.2.2.2.2.1[s.1.2.2.2.2.2.2.2.2.2.2.2.1.toNat]?).bind λx59=>let j65 (p63:List sf) (p64:Bool):Le.R:=some (.inl ((s.1.1,(),(),(),p64,(),(),s.1.2.2.2.2.2.2.2.1,s.1.2.2.2.2.2.2.2.2.1,s.1.2.2.2.2.2.2.2.2.2.1,s.1.2.2.2.2.2.2.2.2.2.2.1,(IntKind.wrap .i64 (s.1.2.2.2.2.2.2.2.2.2.2.2.1+1)),()),s.2.1,p63,s.2.2.2));br (!x59.up) (j65 s.2.2.1 s.1.2.2.2.2.1) ((Kh s.2.1.1.2.2.1 s.1.1 s.1.2.2.2.2.2.2.2.2.2.2.2.1).bind λy60=>br (!y60.1) (j65 s.2.2.1 s.1.2.2.2.2.1) ((Hk x59 s.1.2.2.2.2.2.2.2.2.2.2.2.1).bind λy61=>(LN y61.1 s.2.1.2.2.1.2.2.2.2.2.2.2.2.1 s.2.1.2.2.1.2.2.2.2.2.2.2.2.2.1).bind λy62=>br y62.2.1 (br (!s.1.2.2.2.2.1) (j65 y62.1 true) (br (decide ((y62.1.length:Int)>(s.2.2.1.length:Int))) (j65 y62.1 true) (j65 s.2.2.1 s.1.2.2.2.2.1))) (j65 s.2.2.1 s.1.2.2.2.2.1)))) none) (some (.inr ((s.1.1,(),(),(),s.1.2.2.2.2.1,(),s.1.2.2.2.2.2.2.2.1,s.1.2.2.2.2.2.2.2.2.1,()),(s.2.1.1,s.2.1.2.1,()),s.2.2)))
def NL:=md Hh
def Rn[dL] :=H3 Tryz.f31 [0,0] Le Hh [RI,Q6,Vk] [] (by kernel_rfl) λs=>by simp only[Hh,tm];kernel_rfl
abbrev Oo:LX:=⟨⟨[J6,Nf,OU,Wd,O6,XK,XL,XM],[JG,XW],WN,0,99⟩,[(.ext 0,⟨[Wd,O6],[],YM,0,99⟩)],[],[1,2,6,8,9,33,34,35],[8,9]⟩
def HO(s: (Int×Unit×Unit×Unit×Bool×Unit×Int×Int×Unit)×(MN×Qx×Unit)×List sf×List Int×List Int×Unit):Oo.R:=
 br (decide (s.1.2.2.2.2.2.2.2.1<s.1.2.2.2.2.2.2.1)) (iteP (0<=s.1.2.2.2.2.2.2.2.1/\s.1.2.2.2.2.2.2.2.1< (s.2.2.2.1.length:Int)) ((s.2.2.2.1[s.1.2.2.2.2.2.2.2.1.toNat]?).bind λx22=>(Ki (⟨s.2.1.1.1,s.2.1.1.2.1,s.2.1.1.2.2.1,(⟨s.2.1.1.2.2.2.1,s.2.1.1.2.2.2.2.1⟩:kB),s.2.1.1.2.2.2.2.2.1,(⟨s.2.1.1.2.2.2.2.2.2.1,s.2.1.1.2.2.2.2.2.2.2.1,s.2.1.1.2.2.2.2.2.2.2.2.1⟩:vz),s.2.1.1.2.2.2.2.2.2.2.2.2.1⟩:qN) s.1.1 x22 s.2.1.2.1.1).bind λy23=>br (!y23.1) (some (.inl ((s.1.1,(),(),(),s.1.2.2.2.2.1,(),s.1.2.2.2.2.2.2.1,(IntKind.wrap .i64 (s.1.2.2.2.2.2.2.2.1+1)),()),s.2))) (iteP (0<=x22) ((s.2.1.1.2.1[x22.toNat]?).bind λx24=>(NL ((s.1.1,(),(),(),s.1.2.2.2.2.1,(),(),s.1.2.2.2.2.2.2.1,s.1.2.2.2.2.2.2.2.1,s.2.1.1.2.1,(s.2.1.1.2.1.length:Int),0,()),(s.2.1.1,s.2.1.2.1,(x24.up,x24.intact,x24.version,x24.epoch,x24.config.epoch,x24.config.primary,x24.config.replicas,x24.config.witnesses,x24.first,x24.log,x24.commit,x24.learned,()),()),s.2.2)).bind λe66=>some (.inl ((e66.1.1,(),(),(),e66.1.2.2.2.2.1,(),e66.1.2.2.2.2.2.2.1,(IntKind.wrap .i64 (e66.1.2.2.2.2.2.2.2.1+1)),()),e66.2))) none)) none) (some (.inr (((),s.1.2.2.2.2.1,()),(()),s.2.2.1,())))
def Oc:=md HO
def Si[dL] :=H3 Tryz.f31 [0] Oo HO [RJ] [Rn] (by kernel_rfl) λs=>by simp only[HO,tm];kernel_rfl
def GX(a0:qN)(a1:Int):Option ((List sf)×Bool×Unit):=
 (FI a0.master).bind λy1=>br (!y1.2.1) (some (([]:List sf),false,())) ((FA a0 a1).bind λy2=>br (!y2.1) (some (([]:List sf),false,())) ((Oc ((a1,(),(),(),false,(),(y1.1.witnesses.length:Int),0,()),((a0.now,a0.servers,a0.sides,a0.master.configs,a0.master.activated,a0.masterUp,a0.lease.epoch,a0.lease.holder,a0.lease.ends,a0.places,()),(y1.1.epoch,y1.1.primary,(),(),()),()),([]:List sf),y1.1.witnesses,y1.1.replicas,())).bind λe86=>br (!e86.1.2.1) (some (([]:List sf),false,())) (some (e86.2.2.1,true,()))))
def PU[dL] :=Fz 31 Tryz.f31 LD WK (λx=>GX x.1 x.2.1) [La,MH] [Si] (by kernel_rfl) λx=>by simp only[GX,tm];kernel_rfl
def H4(a0:qN)(a1:Int):Option ((List sf)×Bool×Unit):=
 (FA a0 a1).bind λy1=>br (!y1.1) (some (([]:List sf),false,())) (br (a0.master.activated==0) (some (([]:List sf),true,())) ((GL a0 a1).bind λy2=>br (decide (y2.1≥0)) (iteP (0<=y2.1) ((a0.servers[y2.1.toNat]?).bind λx3=>(FZ x3.log).bind λy4=>some (y4.1,true,())) none) ((GX a0 a1).bind λy5=>some (y5.1,y5.2.1,()))))
def Uy[dL] :=Fz 21 Tryz.f21 LD WK (λx=>H4 x.1 x.2.1) [MH,PS,L7,PU] [] (by kernel_rfl) λx=>by simp only[H4,tm];kernel_rfl
abbrev Nj:LX:=⟨⟨[OT,XI,K6],[],[],0,30⟩,[(.ext 0,⟨[K6],[],[],0,30⟩)],[],[0,1,5],[5]⟩
def GF(s:Zn×Unit×Unit):Nj.R:=
 br (decide (s.1.2.2.1< (s.1.1.length:Int))) (br (decide (s.1.2.2.1< (s.1.2.1.length:Int))) (iteP (0<=s.1.2.2.1) ((s.1.1[s.1.2.2.1.toNat]?).bind λx4=>iteP (0<=s.1.2.2.1) ((s.1.2.1[s.1.2.2.1.toNat]?).bind λx5=>br ((x4.epoch==x5.epoch)&&((x4.op.client==x5.op.client)&&((x4.op.seq==x5.op.seq)&&((x4.op.kind==x5.op.kind)&&((x4.op.object==x5.op.object)&&((x4.op.old==x5.op.old)&&((x4.op.value==x5.op.value)&&true))))))) (some (.inl ((s.1.1,s.1.2.1,(IntKind.wrap .i64 (s.1.2.2.1+1)),()),(()),(())))) (some (.inr (s.1.2.2,(()),(()))))) none) none) (some (.inr (s.1.2.2,(()),(()))))) (some (.inr (s.1.2.2,(()),(()))))
def Kx:=md GF
def QA[dL] :=H3 Tryz.f96 [0] Nj GF [] [] (by kernel_rfl) λs=>by simp only[GF,tm];kernel_rfl
def HT(a0:List sf)(a1:List sf):Option (Int×Unit):=
 (Kx ((a0,a1,0,()),(()),(()))).bind λe6=>some e6.1
def RF[dL] :=Fz 96 Tryz.f96 V7 Ke (λx=>HT x.1 x.2.1) [] [QA] (by kernel_rfl) λx=>by simp only[HT,tm];kernel_rfl
def Jp(a0:List sf)(a1:List sf):Option (Bool×Unit):=
 (HT a0 a1).bind λy1=>some ((y1.1==(a0.length:Int)),())
def Vj[dL] :=Fz 24 Tryz.f24 V7 [.b] (λx=>Jp x.1 x.2.1) [RF] [] (by kernel_rfl) λx=>by simp only[Jp,tm];kernel_rfl
abbrev Qg:LX:=⟨⟨[Ng,O4,K6],[],[],0,26⟩,[(.ret,⟨[Oh],[],[],0,26⟩),(.ext 0,⟨[Oi],[],[],0,26⟩)],[],[0,1,5],[4]⟩
def Lr(s:Zk×Unit×Unit):Qg.R:=
 br (decide (s.1.2.2.1< (s.1.1.length:Int))) (iteP (0<=s.1.2.2.1) ((s.1.1[s.1.2.2.1.toNat]?).bind λx4=>iteP (0<=s.1.2.2.1) ((s.1.2.1[s.1.2.2.1.toNat]?).bind λx5=>br (!(x4==x5)) (some (.inr (.inl ((false,()),(()),(()))))) (some (.inl ((s.1.1,s.1.2.1,(IntKind.wrap .i64 (s.1.2.2.1+1)),()),(()),(()))))) none) none) (some (.inr (.inr (((),()),(()),(())))))
def T0:=md Lr
def Uk[dL] :=H3 Tryz.f25 [0] Qg Lr [] [] (by kernel_rfl) λs=>by simp only[Lr,tm];kernel_rfl
def L5(a0:List Int)(a1:List Int):Option (Bool×Unit):=
 br (!((a0.length:Int)==(a1.length:Int))) (some (false,())) ((T0 ((a0,a1,0,()),(()),(()))).bind λe6=>Sum.elim (λe6_0=>some e6_0.1) (λ_=>some (true,())) e6)
def Vz[dL] :=Fz 25 Tryz.f25 Ub [.b] (λx=>L5 x.1 x.2.1) [] [Uk] (by kernel_rfl) λx=>by simp only[L5,tm];kernel_rfl
def Hf(a0:Int)(a1:qN)(a2:om):Option (Bool×Unit):=
 iteP (0<=a0) ((a1.servers[a0.toNat]?).bind λx1=>some ((x1.config.epoch==a2.epoch),())) none
def NS[dL] :=Fz 99 Tryz.f99 [.ty (.i .i64),.pr (.st .cluster),.pr (.st .config)] [.b] (λx=>Hf x.1 x.2.1 x.2.2.1) [] [] (by kernel_rfl) λx=>by simp only[Hf,tm];kernel_rfl
abbrev GK:LX:=⟨⟨[Ng,(1,.fn 99 [.pro (.st .cluster),.pro (.st .config)]),Mg,Qa],[],[],0,19⟩,[(.ret,⟨[NB],[],[],0,19⟩),(.ext 0,⟨[Oi],[],[],0,19⟩)],[],[0,1,7,8],[4]⟩
def Fl(s: (List Int×(qN×om×Unit)×Int×Int×Unit)×Unit×Unit):GK.R:=
 br (decide (s.1.2.2.2.1<s.1.2.2.1)) (iteP (0<=s.1.2.2.2.1) ((s.1.1[s.1.2.2.2.1.toNat]?).bind λx6=>(Hf x6 s.1.2.1.1 s.1.2.1.2.1).bind λy7=>br y7.1 (some (.inr (.inl (s.1.2.2.2,(()),(()))))) (some (.inl ((s.1.1,s.1.2.1,s.1.2.2.1,(IntKind.wrap .i64 (s.1.2.2.2.1+1)),()),(()),(()))))) none) (some (.inr (.inr (((),()),(()),(())))))
def FU:=md Fl
def IA[dL] :=H3 Tryz.f171 [0] GK Fl [NS] [] (by kernel_rfl) λs=>by simp only[Fl,tm];kernel_rfl
def FF(a0:List Int)(a1_0:qN)(a1_1:om):Option (Int×Unit):=
 (FU ((a0,(a1_0,a1_1,()),(a0.length:Int),0,()),(()),(()))).bind λe8=>Sum.elim (λe8_0=>some e8_0.1) (λ_=>some ((-1),())) e8
def I0[dL] :=Fz 171 Tryz.f171 [.ty (.ls (.i .i64)),.fn 99 Zr] Ke (λx=>FF x.1 x.2.1.1 x.2.1.2.1) [] [IA] (by kernel_rfl) λx=>by simp only[FF,tm];kernel_rfl
def Fy(a0:List Int)(a1_0:qN)(a1_1:om):Option (Bool×Unit):=
 (FF a0 a1_0 a1_1).bind λy1=>some ((decide (y1.1≥0)),())
def Iv[dL] :=Fz 98 Tryz.f98 [.ty (.ls (.i .i64)),.fn 99 Zr] [.b] (λx=>Fy x.1 x.2.1.1 x.2.1.2.1) [I0] [] (by kernel_rfl) λx=>by simp only[Fy,tm];kernel_rfl
def Ge(a0:qN):Option (Bool×Unit):=
 (FI a0.master).bind λy1=>(Gh a0).bind λy2=>br (!y2.1) ((Gh a0).bind λy3=>some (y3.1,())) (br (!y1.2.1) ((Gh a0).bind λy4=>some (y4.1,())) ((Fy y1.1.replicas a0 y1.1).bind λy5=>some (y5.1,())))
def Pk[dL] :=Fz 29 Tryz.f29 SW [.b] (λx=>Ge x.1) [La,M3,Iv] [] (by kernel_rfl) λx=>by simp only[Ge,tm];kernel_rfl
abbrev K7:LX:=⟨⟨[Kd,R4,Oh,K6],[JG,XV],YL,0,41⟩,[(.ret,⟨[MC,Oh],[],[],0,41⟩),(.ext 0,⟨[OS,Oh],[],[],0,41⟩)],[],[1,3,4,5],[2,4]⟩
def FY(s: (Unit×Unit×Bool×Int×Unit)×(MN×Qx×Unit)×List Int×List Int×Unit):K7.R:=
 br (decide (s.1.2.2.2.1< (s.2.2.1.length:Int))) (br s.1.2.2.1 (iteP (0<=s.1.2.2.2.1/\s.1.2.2.2.1< (s.2.2.1.length:Int)) ((s.2.2.1[s.1.2.2.2.1.toNat]?).bind λx19=>iteP (0<=x19) ((s.2.1.1.2.1[x19.toNat]?).bind λx20=>br (x20.config.epoch==s.2.1.2.1.1) (some (.inr (.inl ((true,s.1.2.2.1,()),(()),(()))))) (some (.inl (((),(),s.1.2.2.1,(IntKind.wrap .i64 (s.1.2.2.2.1+1)),()),s.2)))) none) none) (some (.inr (.inr (((),s.1.2.2.1,()),(()),(())))))) (some (.inr (.inr (((),s.1.2.2.1,()),(()),(())))))
def Hz:=md FY
def OB[dL] :=H3 Tryz.f30 [0] K7 FY [] [] (by kernel_rfl) λs=>by simp only[FY,tm];kernel_rfl
def Gf(a0:qN):Option (Bool×Unit):=
 (Fp a0.master).bind λy1=>(Fd a0).bind λy2=>br (!y2.1) (some (false,())) ((Hz (((),(),y1.2.1,0,()),((a0.now,a0.servers,a0.sides,a0.master.configs,a0.master.activated,a0.masterUp,a0.lease.epoch,a0.lease.holder,a0.lease.ends,a0.places,()),(y1.1.epoch,y1.1.primary,(),(),()),()),y1.1.replicas,y1.1.witnesses,())).bind λe21=>Sum.elim (λe21_0=>some (e21_0.1.1,())) (λe21_1=>some ((!e21_1.1.2.1),())) e21)
def Po[dL] :=Fz 30 Tryz.f30 SW [.b] (λx=>Gf x.1) [GA,Fg] [OB] (by kernel_rfl) λx=>by simp only[Gf,tm];kernel_rfl
abbrev Wg:LX:=⟨⟨[Ng,J6,K6],[],[],0,18⟩,[(.ret,⟨[Oh],[],[],0,18⟩),(.ext 0,⟨[Oi],[],[],0,18⟩)],[],[0,1,5],[4]⟩
def Ru(s:ZP×Unit×Unit):Wg.R:=
 br (decide (s.1.2.2.1< (s.1.1.length:Int))) (iteP (0<=s.1.2.2.1) ((s.1.1[s.1.2.2.1.toNat]?).bind λx4=>br (x4==s.1.2.1) (some (.inr (.inl ((true,()),(()),(()))))) (some (.inl ((s.1.1,s.1.2.1,(IntKind.wrap .i64 (s.1.2.2.1+1)),()),(()),(()))))) none) (some (.inr (.inr (((),()),(()),(())))))
def YF:=md Ru
def YS[dL] :=H3 Tryz.f33 [0] Wg Ru [] [] (by kernel_rfl) λs=>by simp only[Ru,tm];kernel_rfl
def Us(a0:List Int)(a1:Int):Option (Bool×Unit):=
 (YF ((a0,a1,0,()),(()),(()))).bind λe5=>Sum.elim (λe5_0=>some e5_0.1) (λ_=>some (false,())) e5
def aab[dL] :=Fz 33 Tryz.f33 Tj [.b] (λx=>Us x.1 x.2.1) [] [YS] (by kernel_rfl) λx=>by simp only[Us,tm];kernel_rfl
def My[dL](a0:Hd):Option (Bool×Unit):=
 (Xc a0).bind λy1=>br y1.1 (some (true,())) ((Ig a0).bind λy2=>(H4 y2.1 y2.2.1).bind λy3=>(Gz y2.1 y2.2.1).bind λy4=>(GM y2.1 y2.2.1).bind λy5=>br (!(y3.2.1==y4.2.1)) (some (false,())) (br (!((y3.1.length:Int)==(y4.1.length:Int))) (some (false,())) ((Jp y3.1 y4.1).bind λy6=>br (!y6.1) (some (false,())) ((F4 y2.1 y2.2.1).bind λy7=>(L5 y5.1 y7.1).bind λy8=>br (!y8.1) (some (false,())) ((GL y2.1 y2.2.1).bind λy9=>(F3 y2.1 y2.2.1).bind λy10=>br (!(y9.1==y10.1)) (some (false,())) ((Ge y2.1).bind λy11=>(Gf y2.1).bind λy12=>br (!(y11.1==y12.1)) (some (false,())) ((GX y2.1 y2.2.1).bind λy13=>(Gd y2.1 y2.2.1).bind λy14=>br (!(y13.2.1==y14.2.1)) (some (false,())) (br (!((y13.1.length:Int)==(y14.1.length:Int))) (some (false,())) ((Jp y13.1 y14.1).bind λy15=>br (!y15.1) (some (false,())) (br (decide ((y5.1.length:Int)>0)) (br (!y3.2.1) (some (false,())) ((GL y2.1 y2.2.1).bind λy16=>(Us y5.1 y16.1).bind λy17=>br (!y17.1) (some (false,())) (br y3.2.1 (some (true,())) (br (!y13.2.1) (some (((y5.1.length:Int)==0),())) (some (false,())))))) (br y3.2.1 (some (true,())) (br (!y13.2.1) (some (((y5.1.length:Int)==0),())) (some (false,()))))))))))))))
def UN[dL] :=Fz 4 Tryz.f4 [.ty (.h)] [.b] (λx=>My x.1) [aaa,Q7,Uy,QR,PT,Vj,P2,Vz,PS,PX,Pk,Po,PU,P3,aab] [] (by kernel_rfl) λx=>by simp only[My,tm];kernel_rfl
end
end Go.Proofs.YtkghndikalnipabGreat.En
