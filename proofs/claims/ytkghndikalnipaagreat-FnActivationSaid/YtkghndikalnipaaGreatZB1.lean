/- Printed by a program: the walk. -/
import Derived.Test.YtkghndikalnipaaGreatZTh
set_option linter.unusedSimpArgs false
set_option linter.unusedVariables false
namespace Go.Proofs.YtkghndikalnipaaGreat.En
open Go
abbrev EG:=@Int.natCast_nonneg
abbrev EH:=@Int.ofNat_lt
abbrev EI:=@Int.lt_irrefl
abbrev EJ:=@List.take_length
abbrev EK:=@List.pairwise_iff_getElem
abbrev EL:=@List.length_set
abbrev EM:=@List.take_add_one
abbrev EN:=@Nat.le_succ_of_le
abbrev EO:=@Sum.elim_inl
abbrev EP:=@List.filter_append
abbrev ES:=@List.pairwise_append
abbrev ET:=@Sum.elim_inr
abbrev EU:=@List.pairwise_cons
abbrev EV:=@List.getElem?_set_ne
abbrev EW:=@Nat.sub_zero
abbrev EX:=@List.pairwise_singleton
abbrev EY:=@List.flatten_append
abbrev EZ:=@List.mem_filter
abbrev E0:=@List.getElem_take
abbrev Fa:=@Nat.not_lt_zero
abbrev Fb:=@List.getElem?_set_self
abbrev Fc:=@Int.toNat_zero
abbrev Fd:=@List.length_filter_le
abbrev Fe:=@Bool.false_and
noncomputable section
abbrev Kk:List Ty:=[.i .i64]
abbrev L5:List Ty:=[.ls (.i .i64)]
abbrev P8:List Ty:=[.st .cluster,.i .i64]
abbrev TQ:List Ty:=[.st .cluster]
abbrev VO:List Ty:=[.ls (.st .entry)]
abbrev YB:List Ty:=[.st .config,.b]
abbrev ZP:List Ty:=[.ls (.st .entry),.b]
abbrev abZ:List Ty:=[.st .server]
abbrev ab0:List Ty:=[.st .config]
abbrev ab1:List Ty:=[.st .masterLog]
abbrev Zb:List Ty:=[.st .masterLog,.b]
abbrev Zc:List Ty:=[.st .server,.b]
abbrev Zd:List Ty:=[.st .cluster,.st .config]
abbrev aa0:List Ty:=[.i .i64,.ls (.st .entry)]
abbrev ac3:List Ty:=[.st .cluster,.st .reply]
abbrev M8:List ju:=[.ty (.st .cluster),.ty (.i .i64)]
abbrev Sd:List ju:=[.ty (.ls (.st .entry))]
abbrev SN:List ju:=[.ty (.st .cluster)]
abbrev TP:List ju:=[.ty (.st .cluster),.ty (.i .i64),.ty (.i .i64)]
abbrev VN:List ju:=[.ty (.st .server),.ty (.i .i64)]
abbrev WT:List ju:=[.ty (.i .i64)]
abbrev WU:List ju:=[.ty (.ls (.i .i64)),.ty (.ls (.i .i64))]
abbrev XF:List ju:=[.ty (.st .masterLog)]
abbrev Yz:List ju:=[.ty (.ls (.i .i64))]
abbrev YA:List ju:=[.ty (.st .config)]
abbrev We:List ju:=[.ty (.st .server)]
abbrev XD:List ju:=[.ty (.ls (.i .i64)),.ty (.i .i64)]
abbrev XE:List ju:=[.ty (.st .op)]
abbrev Y1:List ju:=[.ty (.st .lease)]
abbrev Y2:List ju:=[.ty (.st .masterLog),.ty (.i .i64)]
abbrev Y3:List ju:=[.ty (.st .cluster),.ty (.st .config)]
abbrev Y4:List ju:=[.ty (.ls (.st .entry)),.ty (.ls (.st .entry))]
abbrev aaH:List ju:=[.ty (.i .i64),.ty (.i .i64),.ty (.i .i64)]
abbrev aaI:List ju:=[.ty (.ls (.st .place))]
abbrev aaJ:List ju:=[.ty (.ls (.i .i64)),.ty (.i .i64),.ty (.i .i64)]
abbrev aaK:List ju:=[.ty (.ls (.st .entry)),.ty (.i .i64)]
abbrev acw:List ju:=[.ty (.st .config),.ty (.st .config)]
abbrev acx:List ju:=[.ty (.st .config),.ty (.i .i64)]
abbrev acy:List ju:=[.ty (.ls (.st .entry)),.ty (.i .i64),.ty (.i .i64)]
abbrev acz:List ju:=[.ty (.st .machine),.ty (.i .i64)]
abbrev acA:List ju:=[.ty (.st .cluster),.ty (.i .i64),.ty (.st .op)]
abbrev acB:List ju:=[.ty (.st .lease),.ty (.i .i64)]
abbrev acC:List ju:=[.ty (.st .masterLog),.ty (.st .config)]
abbrev acD:List ju:=[.ty (.i .i64),.ty (.ls (.st .entry))]
abbrev acE:List ju:=[.ty (.ls (.st .entry)),.ty (.i .i64),.ty (.ls (.st .entry))]
abbrev acF:List ju:=[.ty (.st .server),.ty (.st .config),.ty (.i .i64),.ty (.ls (.st .entry))]
abbrev acG:List ju:=[.ty (.st .cluster),.ty (.i .i64),.ty (.i .i64),.ty (.i .i64)]
abbrev acH:List ju:=[.ty (.st .cluster),.ty (.st .event)]
abbrev acI:List ju:=[.ty (.i .i64),.ty (.i .i64)]
abbrev acJ:List ju:=[.ty (.ls (.i .i64)),.fc 234]
abbrev acK:List ju:=[.ty (.ls (.st .place)),.fc 236]
abbrev acL:List ju:=[.ty (.i .i64),.pr (.st .cluster)]
abbrev acM:List ju:=[.ty (.ls (.st .entry)),.fc 206]
abbrev Nh:Type:=(Int×Unit×Unit×Unit×Int×Int×Int×Int×Int×Unit×Unit)
abbrev NF:Type:=(Int×List qQ×List Int×List om×Int×Int×Int×Int×Int×List vB×Unit)
abbrev Sg:Type:=(Int×Int×Unit×Unit×Unit)
abbrev UW:Type:=(Unit×Int×Unit)
abbrev ZO:Type:=(Unit×Unit×Int×Unit)
abbrev aaZ:Type:=(Unit×Unit×Unit)
abbrev abY:Type:=(Unit×Unit×Unit×Int×Unit)
abbrev adq:Type:=(List om×Int×Unit)
abbrev adr:Type:=(List Int×List Int×Unit×Int×Unit)
abbrev ads:Type:=(List Int×List nY×Unit)
abbrev aaW:Type:=(Int×Unit×Unit×Unit×Bool×Int×Unit)
abbrev aaX:Type:=(Bool×Bool×Int×Int×Int×Int×List Int×List Int×Int×List sf×Int×List sf×Unit)
abbrev aaY:Type:=(Unit×Unit×Unit×Unit×Unit×Unit×Int×Unit)
abbrev acT:Type:=(Int×Unit×List Int×List om×Int×Int×Int×Int×Int×List vB×Unit)
abbrev acU:Type:=(List Int×Int×Unit)
abbrev acV:Type:=(List Int×Int×Int×Unit)
abbrev acW:Type:=(List sf×Int×Unit)
abbrev acX:Type:=(List Int×Unit×Int×Unit)
abbrev acY:Type:=(Unit×Int×Unit×Int×Unit)
abbrev acZ:Type:=(List sf×List sf×Int×Unit)
abbrev ac0:Type:=(List sf×Unit×Int×Int×Unit)
abbrev ac1:Type:=(List Int×List Int×Int×Int×Unit)
abbrev ac2:Type:=(List sf×List sf×Int×Int×Unit)
abbrev LV:Nat×mu:=(1,.cl (.ptr 0 0))
abbrev LW:Nat×mu:=(1,.cl (.int .i64))
abbrev M9:Nat×mu:=(2,.cl (.ptr 0 0))
abbrev Ob:Nat×mu:=(5,.cl (.int .i64))
abbrev Oq:Nat×mu:=(4,.cl (.int .i64))
abbrev Ot:Nat×mu:=(7,.cl (.int .i64))
abbrev OM:Nat×mu:=(3,.cl (.int .i64))
abbrev Pk:Nat×mu:=(0,.cl (.ro (.i .i64)))
abbrev QB:Nat×mu:=(0,.cl (.ro (.st .entry)))
abbrev QC:Nat×mu:=(6,.cl (.ptr 1 0))
abbrev Nr:Nat×mu:=(2,.cl (.dead))
abbrev Oa:Nat×mu:=(5,.cl (.own 0 (.i .i64)))
abbrev Oz:Nat×mu:=(2,.cl (.bl))
abbrev OA:Nat×mu:=(6,.cl (.int .i64))
abbrev Pg:Nat×mu:=(2,.cl (.ptr 1 0))
abbrev Ph:Nat×mu:=(4,.cl (.dead))
abbrev Pi:Nat×mu:=(4,.cl (.ptr 0 0))
abbrev Pj:Nat×mu:=(8,.cl (.int .i64))
abbrev Qz:Nat×mu:=(12,.cl (.int .i64))
abbrev QA:Nat×mu:=(0,.cl (.own 0 (.i .i64)))
abbrev Re:Nat×mu:=(2,.cl (.int .i64))
abbrev Rf:Nat×mu:=(9,.cl (.bl))
abbrev Se:Nat×mu:=(3,.cl (.ptr 1 0))
abbrev Sf:Nat×mu:=(1,.cl (.ro (.i .i64)))
abbrev Tl:Nat×mu:=(0,.cl (.ro (.st .place)))
abbrev Tm:Nat×mu:=(4,.cl (.ptr 1 0))
abbrev Tn:Nat×mu:=(3,.cl (.ptr 0 0))
abbrev To:Nat×mu:=(4,.cl (.ptr 2 0))
abbrev Tp:Nat×mu:=(5,.cl (.ptr 3 0))
abbrev Tq:Nat×mu:=(7,.cl (.own 0 (.st .entry)))
abbrev UR:Nat×mu:=(0,.cl (.pt 0 3))
abbrev US:Nat×mu:=(4,.cl (.bl))
abbrev UT:Nat×mu:=(11,.cl (.int .i64))
abbrev UU:Nat×mu:=(10,.cl (.int .i64))
abbrev UV:Nat×mu:=(9,.cl (.own 1 (.i .i64)))
abbrev Wf:Nat×mu:=(3,.cl (.own 0 (.i .i64)))
abbrev Wg:Nat×mu:=(6,.cl (.own 0 (.st .entry)))
abbrev XG:Nat×mu:=(3,.cl (.ptr 2 0))
abbrev XH:Nat×mu:=(8,.cl (.bl))
abbrev XI:Nat×mu:=(7,.cl (.bl))
abbrev Y5:Nat×mu:=(6,.cl (.own 0 (.i .i64)))
abbrev Y6:Nat×mu:=(8,.cl (.own 0 (.i .i64)))
abbrev Y7:Nat×mu:=(3,.cl (.str))
abbrev Y8:Nat×mu:=(3,.cl (.own 1 (.i .i64)))
abbrev Y9:Nat×mu:=(3,.cl (.own 1 (.st .entry)))
abbrev Za:Nat×mu:=(8,.cl (.own 0 (.st .entry)))
abbrev aaL:Nat×mu:=(6,.cl (.dead))
abbrev aaM:Nat×mu:=(7,.cl (.ptr 3 0))
abbrev aaN:Nat×mu:=(7,.cl (.own 0 (.i .i64)))
abbrev aaO:Nat×mu:=(9,.cl (.own 0 (.i .i64)))
abbrev aaP:Nat×mu:=(1,.cl (.ro (.st .entry)))
abbrev aaQ:Nat×mu:=(8,.cl (.ptr 1 0))
abbrev aaR:Nat×mu:=(6,.cl (.ptr 2 0))
abbrev aaS:Nat×mu:=(13,.cl (.int .i64))
abbrev aaT:Nat×mu:=(33,.cl (.own 1 (.i .i64)))
abbrev aaU:Nat×mu:=(34,.cl (.int .i64))
abbrev aaV:Nat×mu:=(35,.cl (.int .i64))
abbrev acN:Nat×mu:=(3,.cl (.own 1 (.st .place)))
abbrev acO:Nat×mu:=(5,.cl (.own 1 (.st .event)))
abbrev acP:Nat×mu:=(11,.cl (.own 1 (.i .i64)))
abbrev acQ:Nat×mu:=(10,.cl (.own 0 (.i .i64)))
abbrev acR:Nat×mu:=(7,.cl (.own 0 (.st .reply)))
abbrev acS:Nat×mu:=(5,.cl (.own 0 (.st .entry)))
abbrev JA:List Ty:=[.i .i64]
abbrev XK:List Ty:=[.st .server,.i .i64,.st .config,.st .place]
abbrev YF:List Ty:=[.st .entry,.i .i64,.st .server,.i .i64,.st .config,.st .place,.i .i64,.i .i64]
abbrev ZS:List Ty:=[.st .entry,.i .i64,.i .i64]
abbrev ZT:List Ty:=[.st .entry]
abbrev aa8:List Ty:=[.i .i64,.st .server,.i .i64,.st .config,.st .place]
abbrev ab2:List Ty:=[.st .config]
abbrev ab3:List Ty:=[.st .server]
abbrev ab4:List Ty:=[.i .i64,.st .session]
abbrev ab5:List Ty:=[.st .cur,.i .i64]
abbrev Zi:List Ty:=[.st .cur,.st .entry]
abbrev aa6:List Ty:=[.i .i64,.i .i64]
abbrev aa7:List Ty:=[.i .i64,.i .i64,.i .i64]
abbrev ac8:List Ty:=[.st .server,.i .i64,.st .place]
abbrev ac9:List Ty:=[.i .i64,.i .i64,.i .i64,.i .i64]
abbrev ada:List Ty:=[.st .reply,.st .server,.i .i64,.st .config,.st .place]
abbrev KC:List Sh:=[.int .i64,.ro (.st .server),.ro (.i .i64),.ro (.st .config),.int .i64,.int .i64,.int .i64,.int .i64,.int .i64,.ro (.st .place)]
abbrev Na:List Sh:=[.int .i64,.em,.em,.em,.int .i64,.int .i64,.int .i64,.int .i64,.int .i64,.em]
abbrev VP:List Sh:=[.int .i64,.own 0 (.st .server),.own 1 (.i .i64),.own 2 (.st .config),.int .i64,.int .i64,.int .i64,.int .i64,.int .i64,.own 3 (.st .place)]
abbrev VQ:List Sh:=[.int .i64,.own 2 (.st .server),.own 3 (.i .i64),.own 4 (.st .config),.int .i64,.int .i64,.int .i64,.int .i64,.int .i64,.own 5 (.st .place)]
abbrev XJ:List Sh:=[.int .i64,.own 1 (.st .server),.own 2 (.i .i64),.own 3 (.st .config),.int .i64,.int .i64,.int .i64,.int .i64,.int .i64,.own 4 (.st .place)]
abbrev YC:List Sh:=[.ro (.st .config),.int .i64]
abbrev YD:List Sh:=[.ro (.i .i64),.ro (.st .session)]
abbrev YE:List Sh:=[.int .i64,.int .i64,.own 6 (.i .i64),.own 7 (.i .i64)]
abbrev ZQ:List Sh:=[.em,.int .i64]
abbrev ZR:List Sh:=[.int .i64,.int .i64,.own 1 (.i .i64),.own 2 (.i .i64)]
abbrev Ze:List Sh:=[.own 0 (.st .config),.int .i64]
abbrev Zf:List Sh:=[.int .i64,.own 0 (.st .server),.ro (.i .i64),.ro (.st .config),.int .i64,.int .i64,.int .i64,.int .i64,.int .i64,.ro (.st .place)]
abbrev Zg:List Sh:=[.bl,.int .i64]
abbrev Zh:List Sh:=[.own 0 (.i .i64),.own 1 (.st .session)]
abbrev aa1:List Sh:=[.int .i64,.int .i64,.bl,.int .i64]
abbrev aa2:List Sh:=[.int .i64,.int .i64,.own 2 (.i .i64),.own 3 (.i .i64)]
abbrev aa3:List Sh:=[.bl,.bl,.int .i64,.int .i64,.int .i64,.int .i64,.ro (.i .i64),.ro (.i .i64),.int .i64,.ro (.st .entry),.int .i64,.ro (.st .entry)]
abbrev aa4:List Sh:=[.int .i64,.int .i64,.own 0 (.i .i64),.own 1 (.i .i64)]
abbrev aa5:List Sh:=[.int .i64,.int .i64,.own 2 (.i .i64),.own 1 (.i .i64)]
abbrev ac4:List Sh:=[.int .i64,.own 0 (.st .server),.own 1 (.i .i64),.em,.int .i64,.int .i64,.int .i64,.int .i64,.int .i64,.own 2 (.st .place)]
abbrev ac5:List Sh:=[.int .i64,.int .i64,.int .i64,.int .i64,.int .i64,.int .i64]
abbrev ac6:List Sh:=[.int .i64,.int .i64,.em,.em]
abbrev ac7:List Sh:=[.own 1 (.st .config),.int .i64]
def sb0:ByteArray:=⟨⟨[0,1,2,2,3,3,3,3,4,4,4,4,4,4,4,4,5,5,5,5,5,5,5,5,5,5,5,5,5,5,5,5,6,6,6,6,6,6,6,6,6,6,6,6,6,6,6,6,6,6,6,6,6,6,6,6,6,6,6,6,6,6,6,6,7,7,7,7,7,7,7,7,7,7,7,7,7,7,7,7,7,7,7,7,7,7,7,7,7,7,7,7,7,7,7,7,7,7,7,7,7,7,7,7,7,7,7,7,7,7,7,7,7,7,7,7,7,7,7,7,7,7,7,7,7,7,7,7,8,8,8,8,8,8,8,8,8,8,8,8,8,8,8,8,8,8,8,8,8,8,8,8,8,8,8,8,8,8,8,8,8,8,8,8,8,8,8,8,8,8,8,8,8,8,8,8,8,8,8,8,8,8,8,8,8,8,8,8,8,8,8,8,8,8,8,8,8,8,8,8,8,8,8,8,8,8,8,8,8,8,8,8,8,8,8,8,8,8,8,8,8,8,8,8,8,8,8,8,8,8,8,8,8,8,8,8,8,8,8,8,8,8,8,8,8,8,8,8,8,8,8,8,8,8,8,8]⟩⟩
theorem LY:Tryz.prog.follows .mixedOrders=true:=by kernel_rfl
abbrev Ik[dL] :=@EF _ _ EE LY _
abbrev FB[dL] :=@Es _ _ EE LY _
abbrev coM[dL] :=@Ez _ _ EE LY _
abbrev coI[dL] :=@Ey _ _ EE LY _
abbrev coC[dL] :=@Et _ _ EE LY _
abbrev Ub[dL] :=@EB _ _ EE LY _
def aal(a0:Hd):Option (Bool×Unit):=some (decide (1048576< (a0.n:Int)),())
section
open Go.RowKit
theorem Z5(x:Hd)(w:World):Calls Tryz.prog 7 #[.slice x.a x.n x.c] w λe w'=>e= .returned (.bool (decide (1048576< (x.n:Int))))/\Below w.heap.size w w':=by
 have mixed:Tryz.prog.follows .mixedOrders=true:=LY
 go_enter Tryz.func7,Tryz.ntmps7
 go_wp2
 go_ret
 exact⟨rfl,Below.refl _ _⟩
end
def adS[dL] :=Eu (P:=Tryz.prog) 7 (by kernel_rfl) (CY Tryz.func7 (by kernel_rfl) rfl) [.ty .h] [.b] rfl rfl (λx=>aal x.1) λx y h w=>by obtain rfl:=Option.some.inj h;exact Z5 x.1 w
def Uc[dL](a0:Hd):Option (List qO×Unit):=(D5 a0).map λc=>([c],())
section
open Go.RowKit
set_option maxHeartbeats 4000000 in
set_option maxRecDepth 100000 in
theorem XV[dL](x:Hd)(c:qO)(hx:D5 x=some c)(w:World)(hB: ∀a v,dL.w.cell? a=some v->w.cell? a=some v):
  Calls Tryz.prog 45 #[.slice x.a x.n x.c] w λr w'=> ∃b cs e,r= .returned (.pointer (some ⟨b,0,none⟩))/\Below w.heap.size w w'/\w.heap.size<=b/\w'.heap[b]? =some (.cells cs e (0,0))/\cs.size=3/\jV cs 0 c:=by
 have mixed:Tryz.prog.follows .mixedOrders=true:=LY;obtain⟨l,hl,rfl⟩:=aj.1 hx;obtain⟨hlen,hg⟩:=B4 hl
 have hg2: ∀ (k:Nat) m,l[k]? =some m-> ∃ad,x.a=some ad/\w.cell? (ad.add k)=some (.int .u8 m):=λk m hk=>by obtain⟨ad,h1,h2⟩:=hg k m hk;exact⟨ad,h1,hB _ _ h2⟩
 clear hg hB hl hx;obtain⟨a,n,cp⟩:=x;simp only at hlen hg2 ⊢;obtain⟨h0,hh0⟩: ∃h0,h0=wrap64 (10101+(n:Int)):=⟨_,rfl⟩
 rw[<-hh0];obtain⟨hf,hhf⟩: ∃hf,hf=(l.take 4000).foldl D8 h0:=⟨_,rfl⟩
 rw[<-hhf]
 go_enter Tryz.func45,Tryz.ntmps45
 go_wp2
 rw[<-hh0]
 go_loop [3,4] (λh i=> ∃k:Nat,k<=n/\k<=4000/\i= .int .i64 k/\h= .int .i64 ((l.take k).foldl D8 h0)) (λ_ i=>n-(intOf i).toNat)
 case atStart=>exact⟨0,bH _,bH _,rfl,by rw[dE,List.foldl_nil]⟩
 case round=>
  obtain⟨k,hk,hk4,rfl,rfl⟩:=hrel;clear hh0;by_cases h1:k<n
  ·by_cases h2:k<4000
   ·have hgk:l[k]? =some l[k] :=an (by omega);obtain⟨ad,rfl,hc⟩:=hg2 k _ hgk
    have hnext: (l.take (k+1)).foldl D8 h0=D8 ((l.take k).foldl D8 h0) l[k] :=by rw[EM,hgk,List.foldl_append,Option.toList_some,List.foldl_cons,List.foldl_nil]
    generalize l[k] =m at hc hnext hgk;clear hg2
    go_wp2
    refine⟨⟨k+1,h1,h2,by rw[Int.natCast_succ],by rw[hnext];rfl⟩,?_⟩;simp only[intOf];omega
   ·have hk0:l.take 4000=l.take k:=by rw[show k=4000 by omega]
    clear hg2
    go_wp2
    go_ret
    rw[hk0] at hhf;subst hhf;exact⟨_,rfl,(Below.refl _ w).alloc (az _) _,az _,_,⟨_,iP w _⟩,rfl,rfl,rfl,rfl⟩
  ·have hk0:l.take 4000=l.take k:=by rw[bS (by omega),bS (by omega)]
   clear hg2
   go_wp2
   go_ret
   rw[hk0] at hhf;subst hhf;exact⟨_,rfl,(Below.refl _ w).alloc (az _) _,az _,_,⟨_,iP w _⟩,rfl,rfl,rfl,rfl⟩
end
def YZ[dL] :=Ek (P:=Tryz.prog) 45 (by kernel_rfl) (CY Tryz.func45 (by kernel_rfl) rfl) D5 XV
def O0[dL](a0:List qO):Option (List qO×Int×Unit):=D4 DF a0
section
open Go.RowKit
set_option maxHeartbeats 4000000 in
set_option maxRecDepth 100000 in
theorem W5[dL](c:qO)(y:qO×Int)(hy:DF c=some y)(w:World)(b O:Nat)(cs:Array Value)(e:TypeId)(hB: ∀a v,dL.w.cell? a=some v->w.cell? a=some v/\a.block≠b)(hb:w.heap[b]? =some (.cells cs e (0,0)))(hc:jV cs O c):
   Calls Tryz.prog 152 #[.pointer (some ⟨b,O,none⟩)] w λr w'=>r= .returned (.int .i64 y.2)/\w'.os=w.os/\w'.tape=w.tape/\w'.output=w.output/\w'.heap.size=w.heap.size/\(∀k,k≠b->w'.heap[k]? =w.heap[k]?)/\ ∃cs',w'.heap[b]? =some (.cells cs' e (0,0))/\cs'.size=cs.size/\jV cs' O y.1/\ ∀k,(k<O\/O+3<=k)->cs'[k]? =cs[k]? :=by
 have mixed:Tryz.prog.follows .mixedOrders=true:=LY;have h0:w.cell? ⟨b,O,none⟩=some (.slice c.b.a c.b.n c.b.c):=by simp[World.cell?,hb,hc.1]
 have h1:w.cell? ⟨b,O+1,none⟩=some (.int .i64 c.i):=by simp[World.cell?,hb,hc.2.1]
 have h2:w.cell? ⟨b,O+2,none⟩=some (.int .i64 c.h):=by simp[World.cell?,hb,hc.2.2]
 have hf1:w.frozen? ⟨b,O+1,none⟩=false:=by simp[World.frozen?,hb]
 have hf2:w.frozen? ⟨b,O+2,none⟩=false:=by simp[World.frozen?,hb]
 unfold DF at hy;split at hy
 ·rename_i hi;split at hy
  ·rename_i hi0;obtain⟨m,hm,rfl⟩:=aj.1 hy;obtain⟨l,hl,hm⟩:=ah.1 hm;obtain⟨_,hg⟩:=B4 hl;obtain⟨ad,ha,hcell⟩:=hg _ _ hm;obtain⟨hc2,hne⟩:=hB _ _ hcell;rw[gV] at hne;clear hy hg hB hl;obtain⟨⟨a,n,cp⟩,i,h⟩:=c;simp only at hi hi0 ha h0 h1 h2 hc2 hm ⊢;subst ha;clear hm hcell;have hk: ∀v,(w.setCell ⟨b,O+2,none⟩ v).cell? (ad.add i.toNat)=some (.int .u8 m):=λv=>(World.cell?_setCell_other w _ _ v (λe=>hne (by rw[<-gV ad i.toNat,<-e]))).trans hc2
   go_enter Tryz.func152,Tryz.ntmps152
   go_wp2
   go_region
   go_wp2
   go_region
   go_wp2
   go_region
   go_wp2
   go_ret
   exact⟨rfl,rfl,rfl,rfl,DG hb hc (.inl rfl)⟩
  ·cases hy
 ·rename_i hi;obtain rfl:=Option.some.inj hy;obtain⟨⟨a,n,cp⟩,i,h⟩:=c;simp only at hi h0 h1 h2 ⊢;clear hy hB
  go_enter Tryz.func152,Tryz.ntmps152
  go_wp2
  go_region
  go_wp2
  go_region
  go_wp2
  go_ret
  exact⟨rfl,rfl,rfl,rfl,DG hb hc (.inr ⟨rfl,rfl⟩)⟩
end
def aaD[dL] :=Em (P:=Tryz.prog) 152 (by kernel_rfl) (CY Tryz.func152 (by kernel_rfl) rfl) DF W5
def Fh[dL](a0:List qO)(a1:Int):Option ((List qO)×Int×Unit):=
 br (decide (a1<=0)) (some (a0,0,())) (br (decide (a1<=256)) ((O0 a0).bind λy1=>iteP (y1.1.length=a0.length) (iteP (a1=0) none (some (y1.1,(Int.tmod y1.2.1 a1),()))) none) ((O0 a0).bind λy2=>iteP (y2.1.length=a0.length) ((O0 y2.1).bind λy3=>iteP (y3.1.length=y2.1.length) ((O0 y3.1).bind λy4=>iteP (y4.1.length=y3.1.length) ((O0 y4.1).bind λy5=>iteP (y5.1.length=y4.1.length) (iteP (a1=0) none (some (y5.1,(Int.tmod (IntKind.wrap .i64 ((IntKind.wrap .i64 ((IntKind.wrap .i64 ((IntKind.wrap .i64 (y2.2.1*16777216))+(IntKind.wrap .i64 (y3.2.1*65536))))+(IntKind.wrap .i64 (y4.2.1*256))))+y5.2.1)) a1),()))) none) none) none) none))
def GI[dL] :=Ub 47 Tryz.f47 (.st .cur) WT Kk (λl x=>Fh l x.1) [aaD] [] (by kernel_rfl) λl x=>by simp only[Fh,tm,-eq_self];kernel_rfl
abbrev So:LX:=⟨⟨[UR,acN,Oq],[],[.st .cur,.st .place],1,22⟩,[(.ext 0,⟨[acN],[],[.st .cur,.st .place],1,22⟩)],[],[0,3,4],[3]⟩
def Nv[dL](s:ZO×Unit×List qO×List vB×Unit):So.R:=
 br (decide (s.1.2.2.1<5)) ((Fh s.2.2.1 4).bind λy4=>iteP (y4.1.length=s.2.2.1.length) ((Fh y4.1 4).bind λy5=>iteP (y5.1.length=y4.1.length) ((Fh y5.1 4).bind λy6=>iteP (y6.1.length=y5.1.length) (iteP ((s.2.2.2.1++([(⟨y4.2.1,(IntKind.wrap .i64 (1+y5.2.1)),y6.2.1⟩:vB)]:List vB)).length*24<=2 ^ 40) (some (.inl (((),(),(IntKind.wrap .i64 (s.1.2.2.1+1)),()),(()),y6.1,(s.2.2.2.1++([(⟨y4.2.1,(IntKind.wrap .i64 (1+y5.2.1)),y6.2.1⟩:vB)]:List vB)),()))) none) none) none) none) (some (.inr (((),()),(()),s.2.2)))
def WS[dL] :=md Nv
def W3[dL] :=Ik Tryz.f228 [0] So Nv [GI] [] (by kernel_rfl) λs=>by simp only[Nv,tm,-eq_self];kernel_rfl
def Mj[dL](a0:List qO):Option ((List qO)×(List vB)×Unit):=
 (WS (((),(),0,()),(()),a0,([]:List vB),())).bind λe7=>some e7.2.2
def UH[dL] :=Ub 228 Tryz.f228 (.st .cur) [] [.ls (.st .place)] (λl _=>Mj l) [] [W3] (by kernel_rfl) λl x=>by simp only[Mj,tm];kernel_rfl
def Fo(a0:Int)(a1:Int)(a2:Int):Option (Bool×Unit):=
 br (decide (a0≥a1)) (some ((decide (a0<=a2)),())) (some (false,()))
def F7[dL] :=FB 57 Tryz.f57 aaH [.b] (λx=>Fo x.1 x.2.1 x.2.2.1) [] [] (by kernel_rfl) λx=>by simp only[Fo,tm];kernel_rfl
abbrev Rm:LX:=⟨⟨[Tl,OM],[],[],0,38⟩,[(.ret,⟨[Tl,Oz],[],[],0,38⟩),(.ext 0,⟨[Tl,Nr],[],[],0,38⟩)],[],[0,3],[0,2]⟩
def IT(s: (List vB×Int×Unit)×Unit×Unit):Rm.R:=
 br (decide (s.1.2.1< (s.1.1.length:Int))) (iteP (0<=s.1.2.1) ((s.1.1[s.1.2.1.toNat]?).bind λx3=>(Fo x3.rack 0 9).bind λy4=>br (!y4.1) (some (.inr (.inl ((s.1.1,false,()),(()),(()))))) (iteP (0<=s.1.2.1) ((s.1.1[s.1.2.1.toNat]?).bind λx5=>(Fo x5.capacity 0 9).bind λy6=>br (!y6.1) (some (.inr (.inl ((s.1.1,false,()),(()),(()))))) (iteP (0<=s.1.2.1) ((s.1.1[s.1.2.1.toNat]?).bind λx7=>(Fo x7.load 0 99).bind λy8=>br (!y8.1) (some (.inr (.inl ((s.1.1,false,()),(()),(()))))) (some (.inl ((s.1.1,(IntKind.wrap .i64 (s.1.2.1+1)),()),(()),(()))))) none)) none)) none) (some (.inr (.inr ((s.1.1,(),()),(()),(())))))
def OK:=md IT
def VX[dL] :=Ik Tryz.f170 [0] Rm IT [F7] [] (by kernel_rfl) λs=>by simp only[IT,tm];kernel_rfl
def F0(a0:List vB):Option (Bool×Unit):=
 (OK ((a0,0,()),(()),(()))).bind λe9=>Sum.elim (λe9_0=>some e9_0.1.2) (λe9_1=>some (((e9_1.1.1.length:Int)==5),())) e9
def M3[dL] :=FB 170 Tryz.f170 aaI [.b] (λx=>F0 x.1) [] [VX] (by kernel_rfl) λx=>by simp only[F0,tm];kernel_rfl
def Lj(a0:Int):Option (qQ×Unit):=
 (Fo a0 1 2).bind λy1=>br (!y1.1) (some ((⟨true,true,1,0,(⟨0,0,([]:List Int),([]:List Int)⟩:om),0,([]:List sf),0,([]:List sf)⟩:qQ),())) (some ((⟨true,true,a0,0,(⟨0,0,([]:List Int),([]:List Int)⟩:om),0,([]:List sf),0,([]:List sf)⟩:qQ),()))
def Te[dL] :=FB 257 Tryz.f257 WT abZ (λx=>Lj x.1) [F7] [] (by kernel_rfl) λx=>by simp only[Lj,tm];kernel_rfl
abbrev QO:LX:=⟨⟨[M9,Se,Oq],[Na,ac4],ac8,0,25⟩,[(.ext 0,⟨[M9,Se],[Na,ac4],ac8,0,25⟩)],[.b 1 1 (.st .server)],[2,3,4],[2,3]⟩
def Lp(s:ZO×(Nh×Nh×Unit)×List qQ×List Int×List vB×Unit):QO.R:=
 br (decide (s.1.2.2.1<5)) ((Lj 1).bind λy34=>iteP ((s.2.2.1++([y34.1]:List qQ)).length*152<=2 ^ 40) (some (.inl (((),(),(IntKind.wrap .i64 (s.1.2.2.1+1)),()),s.2.1,(s.2.2.1++([y34.1]:List qQ)),s.2.2.2))) none) (some (.inr (((),(),()),s.2)))
def UP:=md Lp
def Vb[dL] :=Ik Tryz.f227 [0] QO Lp [Te] [] (by kernel_rfl) λs=>by simp only[Lp,tm];kernel_rfl
def LC(a0:List vB):Option (qN×Unit):=
 (F0 a0).bind λy1=>br (!y1.1) (some ((⟨0,([]:List qQ),([]:List Int),(⟨([]:List om),0⟩:kB),0,(⟨0,0,0⟩:vz),([]:List vB)⟩:qN),())) (iteP (0<=(5:Int)/\(5:Int)=5/\5*((8:Nat):Int)<=2 ^ 40) (iteP ((([]:List vB)++a0).length*24<=2 ^ 40) ((UP (((),(),0,()),((0,(),(),(),0,0,0,0,0,(),()),(0,(),(),(),0,3,0,0,0,(),()),()),([]:List qQ),(List.replicate (5:Int).toNat (0:Int)),(([]:List vB)++a0),())).bind λe35=>some ((⟨e35.2.1.2.1.1,e35.2.2.1,e35.2.2.2.1,(⟨([]:List om),e35.2.1.2.1.2.2.2.2.1⟩:kB),e35.2.1.2.1.2.2.2.2.2.1,(⟨e35.2.1.2.1.2.2.2.2.2.2.1,e35.2.1.2.1.2.2.2.2.2.2.2.1,e35.2.1.2.1.2.2.2.2.2.2.2.2.1⟩:vz),e35.2.2.2.2.1⟩:qN),())) none) none)
def WF[dL] :=FB 227 Tryz.f227 aaI TQ (λx=>LC x.1) [M3] [Vb] (by kernel_rfl) λx=>by simp only[LC,tm,-eq_self];kernel_rfl
def Gz[dL](a0:List qO)(a1:Int):Option ((List qO)×Bool×Unit):=
 (Fh a0 a1).bind λy1=>iteP (y1.1.length=a0.length) (some (y1.1,(y1.2.1==0),())) none
def Jj[dL] :=Ub 104 Tryz.f104 (.st .cur) WT [.b] (λl x=>Gz l x.1) [GI] [] (by kernel_rfl) λl x=>by simp only[Gz,tm,-eq_self];kernel_rfl
def Fu[dL](a0:List qO)(a1:List Int):Option ((List qO)×Int×Unit):=
 (Fh a0 (a1.length:Int)).bind λy1=>iteP (y1.1.length=a0.length) (iteP (0<=y1.2.1) ((a1[y1.2.1.toNat]?).bind λx2=>some (y1.1,x2,())) none) none
def GR[dL] :=Ub 48 Tryz.f48 (.st .cur) Yz Kk (λl x=>Fu l x.1) [GI] [] (by kernel_rfl) λl x=>by simp only[Fu,tm,-eq_self];kernel_rfl
def OG[dL](a0:List qO):Option ((List qO)×Op×Unit):=
 (Fh a0 3).bind λy1=>iteP (y1.1.length=a0.length) ((Fh y1.1 5).bind λy2=>iteP (y2.1.length=y1.1.length) ((Fh y2.1 3).bind λy3=>iteP (y3.1.length=y2.1.length) ((Fh y3.1 10).bind λy4=>iteP (y4.1.length=y3.1.length) ((Gz y4.1 3).bind λy5=>iteP (y5.1.length=y4.1.length) (br y5.2.1 ((Fu y5.1 ([0,0,1,5,9]:List Int)).bind λy6=>iteP (y6.1.length=y5.1.length) (some (y6.1,(⟨y1.2.1,(IntKind.wrap .i64 (1+y2.2.1)),2,y3.2.1,y6.2.1,y4.2.1⟩:Op),())) none) (some (y5.1,(⟨y1.2.1,(IntKind.wrap .i64 (1+y2.2.1)),1,y3.2.1,0,y4.2.1⟩:Op),()))) none) none) none) none) none
def WN[dL] :=Ub 216 Tryz.f216 (.st .cur) [] [.st .op] (λl _=>OG l) [GI,Jj,GR] [] (by kernel_rfl) λl x=>by simp only[OG,tm,-eq_self];kernel_rfl
def NZ[dL](a0:List qO):Option ((List qO)×xx×Unit):=
 (Fh a0 5).bind λy1=>iteP (y1.1.length=a0.length) ((Fh y1.1 24).bind λy2=>iteP (y2.1.length=y1.1.length) (br (y2.2.1==0) ((Fh y2.1 20).bind λy3=>iteP (y3.1.length=y2.1.length) (some (y3.1,(⟨3,y1.2.1,0,(IntKind.wrap .i64 (1+y3.2.1)),(⟨0,0,0,0,0,0⟩:Op)⟩:xx),())) none) (br (y2.2.1==1) ((Fh y2.1 2).bind λy4=>iteP (y4.1.length=y2.1.length) ((Fh y4.1 3).bind λy5=>iteP (y5.1.length=y4.1.length) (some (y5.1,(⟨4,0,y4.2.1,(IntKind.wrap .i64 (1+y5.2.1)),(⟨0,0,0,0,0,0⟩:Op)⟩:xx),())) none) none) (br (y2.2.1==2) (some (y2.1,(⟨5,0,0,0,(⟨0,0,0,0,0,0⟩:Op)⟩:xx),())) (br (y2.2.1==3) (some (y2.1,(⟨6,y1.2.1,0,0,(⟨0,0,0,0,0,0⟩:Op)⟩:xx),())) (let j23 (p6:Bool):Option ((List qO)×xx×Unit):=br p6 (some (y2.1,(⟨7,y1.2.1,0,0,(⟨0,0,0,0,0,0⟩:Op)⟩:xx),())) (br (y2.2.1==6) ((Gz y2.1 3).bind λy7=>iteP (y7.1.length=y2.1.length) (br y7.2.1 (some (y7.1,(⟨8,y1.2.1,0,0,(⟨0,0,0,0,0,0⟩:Op)⟩:xx),())) ((OG y7.1).bind λy26=>iteP (y26.1.length=y7.1.length) (some (y26.1,(⟨1,y1.2.1,0,0,y26.2.1⟩:xx),())) none)) none) (br (y2.2.1==7) ((Fu y2.1 ([0,0,1]:List Int)).bind λy8=>iteP (y8.1.length=y2.1.length) (some (y8.1,(⟨9,y1.2.1,0,y8.2.1,(⟨0,0,0,0,0,0⟩:Op)⟩:xx),())) none) (br (y2.2.1==8) ((Fh y2.1 3).bind λy9=>iteP (y9.1.length=y2.1.length) (some (y9.1,(⟨10,0,0,(IntKind.wrap .i64 (1+y9.2.1)),(⟨0,0,0,0,0,0⟩:Op)⟩:xx),())) none) (let j22 (p10:Bool):Option ((List qO)×xx×Unit):=br p10 ((Fh y2.1 12).bind λy11=>iteP (y11.1.length=y2.1.length) (some (y11.1,(⟨11,0,0,y11.2.1,(⟨0,0,0,0,0,0⟩:Op)⟩:xx),())) none) (br (y2.2.1==11) ((Fh y2.1 5).bind λy12=>iteP (y12.1.length=y2.1.length) ((Fh y12.1 4).bind λy13=>iteP (y13.1.length=y12.1.length) (some (y13.1,(⟨12,y1.2.1,y12.2.1,(IntKind.wrap .i64 (1+y13.2.1)),(⟨0,0,0,0,0,0⟩:Op)⟩:xx),())) none) none) (br (y2.2.1==12) (some (y2.1,(⟨13,y1.2.1,0,0,(⟨0,0,0,0,0,0⟩:Op)⟩:xx),())) (br (y2.2.1==13) (some (y2.1,(⟨14,y1.2.1,0,0,(⟨0,0,0,0,0,0⟩:Op)⟩:xx),())) (br (y2.2.1==14) (some (y2.1,(⟨15,y1.2.1,0,0,(⟨0,0,0,0,0,0⟩:Op)⟩:xx),())) (let j21 (p14:Bool):Option ((List qO)×xx×Unit):=br p14 ((Fh y2.1 3).bind λy15=>iteP (y15.1.length=y2.1.length) ((Fh y15.1 20).bind λy16=>iteP (y16.1.length=y15.1.length) (some (y16.1,(⟨16,0,(IntKind.wrap .i64 (1+y15.2.1)),(IntKind.wrap .i64 (1+y16.2.1)),(⟨0,0,0,0,0,0⟩:Op)⟩:xx),())) none) none) (br (y2.2.1==17) ((Fh y2.1 3).bind λy19=>iteP (y19.1.length=y2.1.length) (some (y19.1,(⟨2,y1.2.1,0,y19.2.1,(⟨0,0,0,0,0,0⟩:Op)⟩:xx),())) none) (br (y2.2.1==18) ((Fh y2.1 3).bind λy20=>iteP (y20.1.length=y2.1.length) (some (y20.1,(⟨2,y1.2.1,0,y20.2.1,(⟨0,0,0,0,0,0⟩:Op)⟩:xx),())) none) ((OG y2.1).bind λy27=>iteP (y27.1.length=y2.1.length) (some (y27.1,(⟨1,y1.2.1,0,0,y27.2.1⟩:xx),())) none)));br (y2.2.1==15) (j21 true) (j21 (y2.2.1==16)))))));br (y2.2.1==9) (j22 true) (j22 (y2.2.1==10))))));br (y2.2.1==4) (j23 true) (j23 (y2.2.1==5))))))) none) none
def Yr[dL] :=Ub 258 Tryz.f258 (.st .cur) [] [.st .event] (λl _=>NZ l) [GI,Jj,GR,WN] [] (by kernel_rfl) λl x=>by simp only[NZ,tm,-eq_self];kernel_rfl
abbrev Rt:LX:=⟨⟨[UR,acO,OA],[],[.st .cur,.st .event],1,48⟩,[(.ext 0,⟨[acO],[],[.st .cur,.st .event],1,48⟩)],[],[0,5,6],[5]⟩
def KH[dL](s:ZO×Unit×List qO×List xx×Unit):Rt.R:=
 br (decide (s.1.2.2.1>0)) ((NZ s.2.2.1).bind λy21=>iteP (y21.1.length=s.2.2.1.length) (br (y21.2.1.kind==1) ((Gz y21.1 3).bind λy22=>iteP (y22.1.length=y21.1.length) (br (!y22.2.1) ((Fu y22.1 ([0,0,1]:List Int)).bind λy23=>iteP (y23.1.length=y22.1.length) (iteP ((s.2.2.2.1++([(⟨y21.2.1.kind,y23.2.1,y21.2.1.other,y21.2.1.n,y21.2.1.op⟩:xx)]:List xx)).length*80<=2 ^ 40) (some (.inl (((),(),(IntKind.wrap .i64 (s.1.2.2.1-1)),()),(()),y23.1,(s.2.2.2.1++([(⟨y21.2.1.kind,y23.2.1,y21.2.1.other,y21.2.1.n,y21.2.1.op⟩:xx)]:List xx)),()))) none) none) (iteP ((s.2.2.2.1++([y21.2.1]:List xx)).length*80<=2 ^ 40) (some (.inl (((),(),(IntKind.wrap .i64 (s.1.2.2.1-1)),()),(()),y22.1,(s.2.2.2.1++([y21.2.1]:List xx)),()))) none)) none) (iteP ((s.2.2.2.1++([y21.2.1]:List xx)).length*80<=2 ^ 40) (some (.inl (((),(),(IntKind.wrap .i64 (s.1.2.2.1-1)),()),(()),y21.1,(s.2.2.2.1++([y21.2.1]:List xx)),()))) none)) none) (some (.inr (((),()),(()),s.2.2)))
def MP[dL] :=md KH
def V7[dL] :=Ik Tryz.f229 [0] Rt KH [Jj,Yr,GR] [] (by kernel_rfl) λs=>by simp only[KH,tm,-eq_self];kernel_rfl
def M1[dL](a0:List qO)(a1:Int):Option ((List qO)×(List xx)×Unit):=
 (Fh a0 3).bind λy1=>iteP (y1.1.length=a0.length) ((Fh y1.1 20).bind λy2=>iteP (y2.1.length=y1.1.length) ((Gz y2.1 2).bind λy3=>iteP (y3.1.length=y2.1.length) (br y3.2.1 ((Fh y3.1 (IntKind.wrap .i64 (a1+1))).bind λy17=>iteP (y17.1.length=y3.1.length) ((MP (((),(),y17.2.1,()),(()),y17.1,([(⟨4,0,1,2,(⟨0,0,0,0,0,0⟩:Op)⟩:xx),(⟨5,0,0,0,(⟨0,0,0,0,0,0⟩:Op)⟩:xx)]:List xx),())).bind λe28=>some e28.2.2) none) ((Fh y3.1 (IntKind.wrap .i64 (a1+1))).bind λy29=>iteP (y29.1.length=y3.1.length) ((MP (((),(),y29.2.1,()),(()),y29.1,([(⟨16,0,(IntKind.wrap .i64 (1+y1.2.1)),(IntKind.wrap .i64 (1+y2.2.1)),(⟨0,0,0,0,0,0⟩:Op)⟩:xx)]:List xx),())).bind λe40=>some e40.2.2) none)) none) none) none
def XA[dL] :=Ub 229 Tryz.f229 (.st .cur) WT [.ls (.st .event)] (λl x=>M1 l x.1) [GI,Jj] [V7] (by kernel_rfl) λl x=>by simp only[M1,tm,-eq_self];kernel_rfl
def Ii(a0:om):Option (om×Unit):=
 iteP ((([]:List Int)++a0.replicas).length*8<=2 ^ 40) (iteP ((([]:List Int)++a0.witnesses).length*8<=2 ^ 40) (some ((⟨a0.epoch,a0.primary,(([]:List Int)++a0.replicas),(([]:List Int)++a0.witnesses)⟩:om),())) none) none
def Qr[dL] :=FB 199 Tryz.f199 YA ab0 (λx=>Ii x.1) [] [] (by kernel_rfl) λx=>by simp only[Ii,tm];kernel_rfl
def GM(a0:List sf):Option ((List sf)×Unit):=
 iteP ((([]:List sf)++a0).length*56<=2 ^ 40) (some ((([]:List sf)++a0),())) none
def KS[dL] :=FB 103 Tryz.f103 Sd VO (λx=>GM x.1) [] [] (by kernel_rfl) λx=>by simp only[GM,tm];kernel_rfl
def Iy(a0:qQ):Option (qQ×Unit):=
 (Ii a0.config).bind λy1=>(GM a0.log).bind λy2=>(GM a0.learned).bind λy3=>some ((⟨a0.up,a0.intact,a0.version,a0.epoch,y1.1,a0.first,y2.1,a0.commit,y3.1⟩:qQ),())
def SF[dL] :=FB 165 Tryz.f165 We abZ (λx=>Iy x.1) [Qr,KS] [] (by kernel_rfl) λx=>by simp only[Iy,tm];kernel_rfl
abbrev Tu:LX:=⟨⟨[LV,Pg,XG,Oq],[YC,ZQ,Ze],ab2,0,29⟩,[(.ext 0,⟨[M9,Se],[ZQ,Ze],ab2,0,29⟩)],[.b 2 0 (.st .config)],[1,2,3,4],[2,3]⟩
def Ld(s:abY×(adq×UW×UW×Unit)×List om×Unit):Tu.R:=
 br (decide (s.1.2.2.2.1< (s.2.1.1.1.length:Int))) (iteP (0<=s.1.2.2.2.1) ((s.2.1.1.1[s.1.2.2.2.1.toNat]?).bind λx14=>(Ii x14).bind λy15=>iteP ((s.2.2.1++([y15.1]:List om)).length*64<=2 ^ 40) (some (.inl (((),(),(),(IntKind.wrap .i64 (s.1.2.2.2.1+1)),()),s.2.1,(s.2.2.1++([y15.1]:List om)),()))) none) none) (some (.inr (((),(),()),s.2.1.2,s.2.2)))
def Ti:=md Ld
def XP[dL] :=Ik Tryz.f166 [0] Tu Ld [Qr] [] (by kernel_rfl) λs=>by simp only[Ld,tm];kernel_rfl
def Mi(a0:kB):Option (kB×Unit):=
 (Ti (((),(),(),0,()),((a0.configs,a0.activated,()),((),0,()),((),a0.activated,()),()),([]:List om),())).bind λe16=>some ((⟨e16.2.2.1,e16.2.1.2.1.2.1⟩:kB),())
def SE[dL] :=FB 166 Tryz.f166 XF ab1 (λx=>Mi x.1) [] [XP] (by kernel_rfl) λx=>by simp only[Mi,tm];kernel_rfl
abbrev Tv:LX:=⟨⟨[LV,Pg,XG,Oq],[KC,Na,Zf],ab3,0,42⟩,[(.ext 0,⟨[LV,Pg,XG],[KC,Na,Zf],ab3,0,42⟩)],[.b 2 1 (.st .server)],[1,2,3,4],[1,2,3]⟩
def Le(s:abY×(NF×Nh×acT×Unit)×List qQ×Unit):Tv.R:=
 br (decide (s.1.2.2.2.1< (s.2.1.1.2.1.length:Int))) (iteP (0<=s.1.2.2.2.1) ((s.2.1.1.2.1[s.1.2.2.2.1.toNat]?).bind λx56=>(Iy x56).bind λy57=>iteP ((s.2.2.1++([y57.1]:List qQ)).length*152<=2 ^ 40) (some (.inl (((),(),(),(IntKind.wrap .i64 (s.1.2.2.2.1+1)),()),s.2.1,(s.2.2.1++([y57.1]:List qQ)),()))) none) none) (some (.inr (((),(),(),()),s.2)))
def Tj:=md Le
def XQ[dL] :=Ik Tryz.f55 [0] Tv Le [SF] [] (by kernel_rfl) λs=>by simp only[Le,tm];kernel_rfl
def FS(a0:qN):Option (qN×Unit):=
 (Tj (((),(),(),0,()),((a0.now,a0.servers,a0.sides,a0.master.configs,a0.master.activated,a0.masterUp,a0.lease.epoch,a0.lease.holder,a0.lease.ends,a0.places,()),(0,(),(),(),0,0,0,0,0,(),()),(a0.now,(),a0.sides,a0.master.configs,a0.master.activated,a0.masterUp,a0.lease.epoch,a0.lease.holder,a0.lease.ends,a0.places,()),()),([]:List qQ),())).bind λe58=>iteP ((([]:List Int)++e58.2.1.1.2.2.1).length*8<=2 ^ 40) ((Mi (⟨e58.2.1.1.2.2.2.1,e58.2.1.1.2.2.2.2.1⟩:kB)).bind λy59=>iteP ((([]:List vB)++e58.2.1.1.2.2.2.2.2.2.2.2.2.1).length*24<=2 ^ 40) (some ((⟨e58.2.1.2.2.1.1,e58.2.2.1,(([]:List Int)++e58.2.1.1.2.2.1),y59.1,e58.2.1.2.2.1.2.2.2.2.2.1,(⟨e58.2.1.2.2.1.2.2.2.2.2.2.1,e58.2.1.2.2.1.2.2.2.2.2.2.2.1,e58.2.1.2.2.1.2.2.2.2.2.2.2.2.1⟩:vz),(([]:List vB)++e58.2.1.1.2.2.2.2.2.2.2.2.2.1)⟩:qN),())) none) none
def Gn[dL] :=FB 55 Tryz.f55 SN TQ (λx=>FS x.1) [SE] [XQ] (by kernel_rfl) λx=>by simp only[FS,tm];kernel_rfl
abbrev Sj:LX:=⟨⟨[Pk,OM],[],[],0,19⟩,[(.ret,⟨[Pk,Oz],[],[],0,19⟩),(.ext 0,⟨[Pk,Nr],[],[],0,19⟩)],[],[0,3],[0,2]⟩
def Kr(s:acU×Unit×Unit):Sj.R:=
 br (decide (s.1.2.1< (s.1.1.length:Int))) (iteP (0<=s.1.2.1) ((s.1.1[s.1.2.1.toNat]?).bind λx3=>(Fo x3 0 3).bind λy4=>br (!y4.1) (some (.inr (.inl ((s.1.1,false,()),(()),(()))))) (some (.inl ((s.1.1,(IntKind.wrap .i64 (s.1.2.1+1)),()),(()),(()))))) none) (some (.inr (.inr ((s.1.1,(),()),(()),(())))))
def PQ:=md Kr
def WX[dL] :=Ik Tryz.f167 [0] Sj Kr [F7] [] (by kernel_rfl) λs=>by simp only[Kr,tm];kernel_rfl
def HS(a0:List Int):Option (Bool×Unit):=
 (PQ ((a0,0,()),(()),(()))).bind λe5=>Sum.elim (λe5_0=>some e5_0.1.2) (λe5_1=>some (((e5_1.1.1.length:Int)==5),())) e5
def PN[dL] :=FB 167 Tryz.f167 Yz [.b] (λx=>HS x.1) [] [WX] (by kernel_rfl) λx=>by simp only[HS,tm];kernel_rfl
abbrev QI:LX:=⟨⟨[Pk,OM],[],[],0,32⟩,[(.ret,⟨[Oz],[],[],0,32⟩),(.ext 0,⟨[Nr],[],[],0,32⟩)],[],[0,3],[2]⟩
def Ha(s:acU×Unit×Unit):QI.R:=
 br (decide (s.1.2.1< (s.1.1.length:Int))) (iteP (0<=s.1.2.1) ((s.1.1[s.1.2.1.toNat]?).bind λx3=>(Fo x3 0 4).bind λy4=>br (!y4.1) (some (.inr (.inl ((false,()),(()),(()))))) (br (decide (s.1.2.1>0)) (iteP (0<=(IntKind.wrap .i64 (s.1.2.1-1))) ((s.1.1[(IntKind.wrap .i64 (s.1.2.1-1)).toNat]?).bind λx5=>iteP (0<=s.1.2.1) ((s.1.1[s.1.2.1.toNat]?).bind λx6=>br (decide (x5≥x6)) (some (.inr (.inl ((false,()),(()),(()))))) (some (.inl ((s.1.1,(IntKind.wrap .i64 (s.1.2.1+1)),()),(()),(()))))) none) none) (some (.inl ((s.1.1,(IntKind.wrap .i64 (s.1.2.1+1)),()),(()),(())))))) none) (some (.inr (.inr (((),()),(()),(())))))
def LR:=md Ha
def U7[dL] :=Ik Tryz.f191 [0] QI Ha [F7] [] (by kernel_rfl) λs=>by simp only[Ha,tm];kernel_rfl
def GG(a0:List Int):Option (Bool×Unit):=
 (LR ((a0,0,()),(()),(()))).bind λe7=>Sum.elim (λe7_0=>some e7_0.1) (λ_=>some (true,())) e7
def NA[dL] :=FB 191 Tryz.f191 Yz [.b] (λx=>GG x.1) [] [U7] (by kernel_rfl) λx=>by simp only[GG,tm];kernel_rfl
abbrev Rn:LX:=⟨⟨[Pk,LW,Ob],[],[],0,18⟩,[(.ret,⟨[US],[],[],0,18⟩),(.ext 0,⟨[Ph],[],[],0,18⟩)],[],[0,1,5],[4]⟩
def JO(s:acV×Unit×Unit):Rn.R:=
 br (decide (s.1.2.2.1< (s.1.1.length:Int))) (iteP (0<=s.1.2.2.1) ((s.1.1[s.1.2.2.1.toNat]?).bind λx4=>br (x4==s.1.2.1) (some (.inr (.inl ((true,()),(()),(()))))) (some (.inl ((s.1.1,s.1.2.1,(IntKind.wrap .i64 (s.1.2.2.1+1)),()),(()),(()))))) none) (some (.inr (.inr (((),()),(()),(())))))
def OL:=md JO
def V0[dL] :=Ik Tryz.f86 [0] Rn JO [] [] (by kernel_rfl) λs=>by simp only[JO,tm];kernel_rfl
def F1(a0:List Int)(a1:Int):Option (Bool×Unit):=
 (OL ((a0,a1,0,()),(()),(()))).bind λe5=>Sum.elim (λe5_0=>some e5_0.1) (λ_=>some (false,())) e5
def H4[dL] :=FB 86 Tryz.f86 XD [.b] (λx=>F1 x.1 x.2.1) [] [V0] (by kernel_rfl) λx=>by simp only[F1,tm];kernel_rfl
abbrev Wj:LX:=⟨⟨[Pk,LW,Ob],[],[],0,47⟩,[(.ext 0,⟨[Pk,LW,Ob],[],[],0,47⟩)],[],[0,1,5],[0,1,5]⟩
def Kt(s:acV×Unit×Unit):Wj.R:=
 br (decide (s.1.2.2.1< (s.1.1.length:Int))) (iteP (0<=s.1.2.2.1) ((s.1.1[s.1.2.2.1.toNat]?).bind λx4=>br (decide (x4<s.1.2.1)) (some (.inl ((s.1.1,s.1.2.1,(IntKind.wrap .i64 (s.1.2.2.1+1)),()),(()),(())))) (some (.inr (s.1,(()),(()))))) none) (some (.inr (s.1,(()),(()))))
def SK:=md Kt
def ZX[dL] :=Ik Tryz.f192 [0] Wj Kt [] [] (by kernel_rfl) λs=>by simp only[Kt,tm];kernel_rfl
def I2(a0:List Int)(a1:Int):Option ((List Int)×Unit):=
 (SK ((a0,a1,0,()),(()),(()))).bind λe5=>let j7:Option ((List Int)×Unit):=iteP (0<=(0:Int)/\(0:Int)<=e5.1.2.2.1/\e5.1.2.2.1<=(e5.1.1.length:Int)) (iteP ((([]:List Int)++((e5.1.1.drop (0:Int).toNat).take (e5.1.2.2.1.toNat-(0:Int).toNat))).length*8<=2 ^ 40) (iteP (((([]:List Int)++((e5.1.1.drop (0:Int).toNat).take (e5.1.2.2.1.toNat-(0:Int).toNat)))++([e5.1.2.1]:List Int)).length*8<=2 ^ 40) (iteP (0<=e5.1.2.2.1/\e5.1.2.2.1<=(e5.1.1.length:Int)/\(e5.1.1.length:Int)<=(e5.1.1.length:Int)) (iteP ((((([]:List Int)++((e5.1.1.drop (0:Int).toNat).take (e5.1.2.2.1.toNat-(0:Int).toNat)))++([e5.1.2.1]:List Int))++((e5.1.1.drop e5.1.2.2.1.toNat).take ((e5.1.1.length:Int).toNat-e5.1.2.2.1.toNat))).length*8<=2 ^ 40) (some ((((([]:List Int)++((e5.1.1.drop (0:Int).toNat).take (e5.1.2.2.1.toNat-(0:Int).toNat)))++([e5.1.2.1]:List Int))++((e5.1.1.drop e5.1.2.2.1.toNat).take ((e5.1.1.length:Int).toNat-e5.1.2.2.1.toNat))),())) none) none) none) none) none;br (decide (e5.1.2.2.1< (e5.1.1.length:Int))) (iteP (0<=e5.1.2.2.1) ((e5.1.1[e5.1.2.2.1.toNat]?).bind λx6=>br (x6==e5.1.2.1) (iteP ((([]:List Int)++e5.1.1).length*8<=2 ^ 40) (some ((([]:List Int)++e5.1.1),())) none) (j7)) none) (j7)
def PO[dL] :=FB 192 Tryz.f192 XD L5 (λx=>I2 x.1 x.2.1) [] [ZX] (by kernel_rfl) λx=>by simp only[I2,tm];kernel_rfl
abbrev OC:LX:=⟨⟨[Pk,Sf,Oa,OA],[],JA,0,27⟩,[(.ext 0,⟨[Oa],[],JA,0,27⟩)],[],[0,1,5,6],[5]⟩
def HI(s:adr×Unit×List Int×Unit):OC.R:=
 br (decide (s.1.2.2.2.1< (s.1.1.length:Int))) (iteP (0<=s.1.2.2.2.1) ((s.1.1[s.1.2.2.2.1.toNat]?).bind λx5=>(F1 s.1.2.1 x5).bind λy6=>br y6.1 (iteP (0<=s.1.2.2.2.1) ((s.1.1[s.1.2.2.2.1.toNat]?).bind λx7=>(I2 s.2.2.1 x7).bind λy8=>some (.inl ((s.1.1,s.1.2.1,(),(IntKind.wrap .i64 (s.1.2.2.2.1+1)),()),(()),y8.1,()))) none) (some (.inl ((s.1.1,s.1.2.1,(),(IntKind.wrap .i64 (s.1.2.2.2.1+1)),()),(()),s.2.2)))) none) (some (.inr (((),()),(()),s.2.2)))
def Ox:=md HI
def Sr[dL] :=Ik Tryz.f188 [0] OC HI [H4,PO] [] (by kernel_rfl) λs=>by simp only[HI,tm];kernel_rfl
def HT(a0:List Int)(a1:List Int):Option ((List Int)×Unit):=
 (Ox ((a0,a1,(),0,()),(()),([]:List Int),())).bind λe10=>some e10.2.2
def Nc[dL] :=FB 188 Tryz.f188 WU L5 (λx=>HT x.1 x.2.1) [] [Sr] (by kernel_rfl) λx=>by simp only[HT,tm];kernel_rfl
def Fk(a0:om):Option (Bool×Unit):=
 (Fo a0.epoch 1 20).bind λy1=>br y1.1 ((GG a0.replicas).bind λy2=>br y2.1 ((GG a0.witnesses).bind λy3=>br y3.1 ((F1 a0.replicas a0.primary).bind λy4=>br y4.1 ((HT a0.replicas a0.witnesses).bind λy5=>some (((y5.1.length:Int)==0),())) (some (false,()))) (some (false,()))) (some (false,()))) (some (false,()))
def JK[dL] :=FB 126 Tryz.f126 YA [.b] (λx=>Fk x.1) [F7,NA,H4,Nc] [] (by kernel_rfl) λx=>by simp only[Fk,tm];kernel_rfl
abbrev P5:LX:=⟨⟨[LV,OM],[YC],[],0,35⟩,[(.ret,⟨[LV,Oz],[YC],[],0,35⟩),(.ext 0,⟨[LV,Nr],[YC],[],0,35⟩)],[],[1,3],[1,2]⟩
def FX(s:UW×(adq×Unit)×Unit):P5.R:=
 br (decide (s.1.2.1< (s.2.1.1.1.length:Int))) (iteP (0<=s.1.2.1) ((s.2.1.1.1[s.1.2.1.toNat]?).bind λx4=>(Fk x4).bind λy5=>br (!y5.1) (some (.inr (.inl (((),false,()),s.2.1,(()))))) (iteP (0<=s.1.2.1) ((s.2.1.1.1[s.1.2.1.toNat]?).bind λx6=>br (!(x6.epoch==(IntKind.wrap .i64 (s.1.2.1+1)))) (some (.inr (.inl (((),false,()),s.2.1,(()))))) (some (.inl (((),(IntKind.wrap .i64 (s.1.2.1+1)),()),s.2.1,(()))))) none)) none) (some (.inr (.inr (((),(),()),s.2.1,(())))))
def JL:=md FX
def TX[dL] :=Ik Tryz.f168 [0] P5 FX [JK] [] (by kernel_rfl) λs=>by simp only[FX,tm];kernel_rfl
def Fv(a0:kB):Option (Bool×Unit):=
 (JL (((),0,()),((a0.configs,a0.activated,()),()),(()))).bind λe7=>Sum.elim (λe7_0=>some e7_0.1.2) (λe7_1=>(Fo e7_1.2.1.1.2.1 0 (e7_1.2.1.1.1.length:Int)).bind λy8=>some (y8.1,())) e7
def MM[dL] :=FB 168 Tryz.f168 XF [.b] (λx=>Fv x.1) [F7] [TX] (by kernel_rfl) λx=>by simp only[Fv,tm];kernel_rfl
def HL(a0:vz):Option (Bool×Unit):=
 br ((a0.epoch==0)&&((a0.holder==0)&&((a0.ends==0)&&true))) (some (true,())) ((Fo a0.epoch 1 20).bind λy1=>br y1.1 ((Fo a0.holder 0 4).bind λy2=>br y2.1 ((Fo a0.ends 1 1049).bind λy3=>some (y3.1,())) (some (false,()))) (some (false,())))
def O5[dL] :=FB 169 Tryz.f169 Y1 [.b] (λx=>HL x.1) [F7] [] (by kernel_rfl) λx=>by simp only[HL,tm];kernel_rfl
def F2(a0:Op):Option (Bool×Unit):=
 (Fo a0.client 0 2).bind λy1=>br (!y1.1) (some (false,())) ((Fo a0.seq 1 99).bind λy2=>br (!y2.1) (some (false,())) ((Fo a0.object 0 2).bind λy3=>br (!y3.1) (some (false,())) ((Fo a0.value 0 9).bind λy4=>br (!y4.1) (some (false,())) (br (a0.kind==1) (br (a0.old==0) (some (true,())) (br (a0.kind==2) ((Fo a0.old 0 9).bind λy5=>some (y5.1,())) (some (false,())))) (br (a0.kind==2) ((Fo a0.old 0 9).bind λy6=>some (y6.1,())) (some (false,())))))))
def M4[dL] :=FB 138 Tryz.f138 XE [.b] (λx=>F2 x.1) [F7] [] (by kernel_rfl) λx=>by simp only[F2,tm];kernel_rfl
abbrev Wi:LX:=⟨⟨[QB,OM],[],[],0,47⟩,[(.ret,⟨[QB,Oz],[],[],0,47⟩),(.ext 0,⟨[QB,Nr],[],[],0,47⟩)],[],[0,3],[0,2]⟩
def Ks(s:acW×Unit×Unit):Wi.R:=
 br (decide (s.1.2.1< (s.1.1.length:Int))) (iteP (0<=s.1.2.1) ((s.1.1[s.1.2.1.toNat]?).bind λx3=>(Fo x3.epoch 1 20).bind λy4=>br (!y4.1) (some (.inr (.inl ((s.1.1,false,()),(()),(()))))) (iteP (0<=s.1.2.1) ((s.1.1[s.1.2.1.toNat]?).bind λx5=>(F2 x5.op).bind λy6=>br (!y6.1) (some (.inr (.inl ((s.1.1,false,()),(()),(()))))) (br (decide (s.1.2.1>0)) (iteP (0<=(IntKind.wrap .i64 (s.1.2.1-1))) ((s.1.1[(IntKind.wrap .i64 (s.1.2.1-1)).toNat]?).bind λx7=>iteP (0<=s.1.2.1) ((s.1.1[s.1.2.1.toNat]?).bind λx8=>br (decide (x7.epoch>x8.epoch)) (some (.inr (.inl ((s.1.1,false,()),(()),(()))))) (some (.inl ((s.1.1,(IntKind.wrap .i64 (s.1.2.1+1)),()),(()),(()))))) none) none) (some (.inl ((s.1.1,(IntKind.wrap .i64 (s.1.2.1+1)),()),(()),(())))))) none)) none) (some (.inr (.inr ((s.1.1,(),()),(()),(())))))
def Pa:=md Ks
def ZW[dL] :=Ik Tryz.f213 [0] Wi Ks [F7,M4] [] (by kernel_rfl) λs=>by simp only[Ks,tm];kernel_rfl
def F9(a0:List sf):Option (Bool×Unit):=
 (Pa ((a0,0,()),(()),(()))).bind λe9=>Sum.elim (λe9_0=>some e9_0.1.2) (λe9_1=>some ((decide ((e9_1.1.1.length:Int)<=16)),())) e9
def NB[dL] :=FB 213 Tryz.f213 Sd [.b] (λx=>F9 x.1) [] [ZW] (by kernel_rfl) λx=>by simp only[F9,tm];kernel_rfl
abbrev Pq:LX:=⟨⟨[Pk,Sf,Ob],[],[],0,26⟩,[(.ret,⟨[US],[],[],0,26⟩),(.ext 0,⟨[Ph],[],[],0,26⟩)],[],[0,1,5],[4]⟩
def H7(s: (List Int×List Int×Int×Unit)×Unit×Unit):Pq.R:=
 br (decide (s.1.2.2.1< (s.1.1.length:Int))) (iteP (0<=s.1.2.2.1) ((s.1.1[s.1.2.2.1.toNat]?).bind λx4=>iteP (0<=s.1.2.2.1) ((s.1.2.1[s.1.2.2.1.toNat]?).bind λx5=>br (!(x4==x5)) (some (.inr (.inl ((false,()),(()),(()))))) (some (.inl ((s.1.1,s.1.2.1,(IntKind.wrap .i64 (s.1.2.2.1+1)),()),(()),(()))))) none) none) (some (.inr (.inr (((),()),(()),(())))))
def Ms:=md H7
def ST[dL] :=Ik Tryz.f238 [0] Pq H7 [] [] (by kernel_rfl) λs=>by simp only[H7,tm];kernel_rfl
def Je(a0:List Int)(a1:List Int):Option (Bool×Unit):=
 br (!((a0.length:Int)==(a1.length:Int))) (some (false,())) ((Ms ((a0,a1,0,()),(()),(()))).bind λe6=>Sum.elim (λe6_0=>some e6_0.1) (λ_=>some (true,())) e6)
def Uy[dL] :=FB 238 Tryz.f238 WU [.b] (λx=>Je x.1 x.2.1) [] [ST] (by kernel_rfl) λx=>by simp only[Je,tm];kernel_rfl
def Hf(a0:om)(a1:om):Option (Bool×Unit):=
 br (a0.epoch==a1.epoch) (br (a0.primary==a1.primary) ((Je a0.replicas a1.replicas).bind λy1=>br y1.1 ((Je a0.witnesses a1.witnesses).bind λy2=>some (y2.1,())) (some (false,()))) (some (false,()))) (some (false,()))
def LL[dL] :=FB 173 Tryz.f173 acw [.b] (λx=>Hf x.1 x.2.1) [Uy] [] (by kernel_rfl) λx=>by simp only[Hf,tm];kernel_rfl
def JS(a0:om):Option (Bool×Unit):=
 (Hf a0 (⟨0,0,([]:List Int),([]:List Int)⟩:om)).bind λy1=>some (y1.1,())
def Q0[dL] :=FB 88 Tryz.f88 YA [.b] (λx=>JS x.1) [LL] [] (by kernel_rfl) λx=>by simp only[JS,tm];kernel_rfl
def Iz(a0:List sf):Option (Int×Unit):=
 br ((a0.length:Int)==0) (some (0,())) (iteP (0<=(IntKind.wrap .i64 ((a0.length:Int)-1))) ((a0[(IntKind.wrap .i64 ((a0.length:Int)-1)).toNat]?).bind λx1=>some (x1.epoch,())) none)
def SG[dL] :=FB 172 Tryz.f172 Sd Kk (λx=>Iz x.1) [] [] (by kernel_rfl) λx=>by simp only[Iz,tm];kernel_rfl
def F8(a0:om)(a1:Int):Option (Int×Unit):=
 (Fk a0).bind λy1=>br (!y1.1) (some (0,())) (br (a1==a0.primary) (some (1,())) ((F1 a0.replicas a1).bind λy2=>br y2.1 (some (2,())) ((F1 a0.witnesses a1).bind λy3=>br y3.1 (some (3,())) (some (0,())))))
def N1[dL] :=FB 128 Tryz.f128 acx Kk (λx=>F8 x.1 x.2.1) [JK,H4] [] (by kernel_rfl) λx=>by simp only[F8,tm];kernel_rfl
def Fi(a0:qQ)(a1:Int):Option (Bool×Unit):=
 (Fo a0.version 1 2).bind λy1=>br (!y1.1) (some (false,())) ((Fo a0.epoch 0 20).bind λy2=>br (!y2.1) (some (false,())) ((F9 a0.log).bind λy3=>br (!y3.1) (some (false,())) ((F9 a0.learned).bind λy4=>br (!y4.1) (some (false,())) ((Fo a0.first 0 16).bind λy5=>br (!y5.1) (some (false,())) ((Fo (IntKind.wrap .i64 (a0.first+(a0.log.length:Int))) 0 16).bind λy6=>br (!y6.1) (some (false,())) ((Fo a0.commit 0 (IntKind.wrap .i64 (a0.first+(a0.log.length:Int)))).bind λy7=>br (!y7.1) (some (false,())) ((JS a0.config).bind λy8=>br y8.1 (br (a0.first==0) (br ((a0.log.length:Int)==0) (some ((a0.commit==0),())) (some (false,()))) (some (false,()))) (br (!a0.intact) (some (false,())) (br (decide (a0.epoch<a0.config.epoch)) (some (false,())) ((Iz a0.log).bind λy9=>br (decide (y9.1>a0.config.epoch)) (some (false,())) ((F8 a0.config a1).bind λy10=>br (y10.1==0) (some (false,())) (br (y10.1==3) (br (decide ((a0.log.length:Int)<=3)) (br ((a0.log.length:Int)==3) (some (true,())) (some ((a0.first==0),()))) (some (false,()))) (some ((a0.first==0),()))))))))))))))
def PX[dL] :=FB 171 Tryz.f171 VN [.b] (λx=>Fi x.1 x.2.1) [F7,NB,Q0,SG,N1] [] (by kernel_rfl) λx=>by simp only[Fi,tm];kernel_rfl
def G4(a0:kB)(a1:Int):Option (om×Bool×Unit):=
 (Fv a0).bind λy1=>br (!y1.1) (some ((⟨0,0,([]:List Int),([]:List Int)⟩:om),false,())) ((Fo a1 1 (a0.configs.length:Int)).bind λy2=>br (!y2.1) (some ((⟨0,0,([]:List Int),([]:List Int)⟩:om),false,())) (iteP (0<=(IntKind.wrap .i64 (a1-1))) ((a0.configs[(IntKind.wrap .i64 (a1-1)).toNat]?).bind λx3=>(Ii x3).bind λy4=>some (y4.1,true,())) none))
def Ry[dL] :=FB 101 Tryz.f101 Y2 YB (λx=>G4 x.1 x.2.1) [MM,F7,Qr] [] (by kernel_rfl) λx=>by simp only[G4,tm];kernel_rfl
abbrev Oe:LX:=⟨⟨[LV,OM],[KC],[],0,123⟩,[(.ret,⟨[Oz],[],[],0,123⟩),(.ext 0,⟨[Nr],[],[],0,123⟩)],[],[1,3],[2]⟩
def Fn(s:UW×(NF×Unit)×Unit):Oe.R:=
 br (decide (s.1.2.1< (s.2.1.1.2.1.length:Int))) (iteP (0<=s.1.2.1) ((s.2.1.1.2.1[s.1.2.1.toNat]?).bind λx18=>(Fi x18 s.1.2.1).bind λy19=>br (!y19.1) (some (.inr (.inl ((false,()),(()),(()))))) (br (decide (x18.epoch>(s.2.1.1.2.2.2.1.length:Int))) (some (.inr (.inl ((false,()),(()),(()))))) ((Iz x18.learned).bind λy20=>br (decide (y20.1>s.2.1.1.2.2.2.2.1)) (some (.inr (.inl ((false,()),(()),(()))))) ((G4 (⟨s.2.1.1.2.2.2.1,s.2.1.1.2.2.2.2.1⟩:kB) x18.config.epoch).bind λy21=>(JS x18.config).bind λy22=>br (!y22.1) (br (!y21.2.1) (some (.inr (.inl ((false,()),(()),(()))))) ((Hf y21.1 x18.config).bind λy23=>br (!y23.1) (some (.inr (.inl ((false,()),(()),(()))))) (br (decide (x18.config.epoch>s.2.1.1.2.2.2.2.1)) (some (.inr (.inl ((false,()),(()),(()))))) (some (.inl (((),(IntKind.wrap .i64 (s.1.2.1+1)),()),s.2.1,(()))))))) (some (.inl (((),(IntKind.wrap .i64 (s.1.2.1+1)),()),s.2.1,(())))))))) none) (some (.inr (.inr (((),()),(()),(())))))
def HA:=md Fn
def RF[dL] :=Ik Tryz.f56 [0] Oe Fn [PX,SG,Ry,Q0,LL] [] (by kernel_rfl) λs=>by simp only[Fn,tm];kernel_rfl
def Ff(a0:qN):Option (Bool×Unit):=
 (Fo a0.now 0 999).bind λy1=>br (!y1.1) (some (false,())) (br (!((a0.servers.length:Int)==5)) (some (false,())) ((HS a0.sides).bind λy2=>br (!y2.1) (some (false,())) ((Fv a0.master).bind λy3=>br (!y3.1) (some (false,())) ((Fo a0.masterUp 0 3).bind λy4=>br (!y4.1) (some (false,())) ((HL a0.lease).bind λy5=>br (!y5.1) (some (false,())) ((F0 a0.places).bind λy6=>br (!y6.1) (some (false,())) (br (decide (a0.lease.epoch>a0.master.activated)) (some (false,())) ((HA (((),0,()),((a0.now,a0.servers,a0.sides,a0.master.configs,a0.master.activated,a0.masterUp,a0.lease.epoch,a0.lease.holder,a0.lease.ends,a0.places,()),()),(()))).bind λe24=>Sum.elim (λe24_0=>some e24_0.1) (λ_=>some (true,())) e24))))))))
def Fq[dL] :=FB 56 Tryz.f56 SN [.b] (λx=>Ff x.1) [F7,PN,MM,O5,M3] [RF] (by kernel_rfl) λx=>by simp only[Ff,tm];kernel_rfl
def O2(a0:Int):Option (Bool×Bool×Bool×Unit):=
 br (a0==1) (some (true,false,false,())) (let j5 (p1:Bool):Option (Bool×Bool×Bool×Unit):=br p1 (some (true,false,false,())) (let j4 (p2:Bool):Option (Bool×Bool×Bool×Unit):=br p2 (some (true,false,true,())) (br (a0==4) (some (false,true,true,())) (br (a0==10) (some (false,false,true,())) (br (a0==11) (some (false,false,true,())) (br (a0==12) (some (true,true,true,())) (br (a0==16) (some (false,true,true,())) (some (false,false,false,())))))));br (a0==2) (j4 true) (br (a0==3) (j4 true) (j4 (a0==9))));br (a0==6) (j5 true) (br (a0==7) (j5 true) (br (a0==8) (j5 true) (br (a0==13) (j5 true) (br (a0==14) (j5 true) (j5 (a0==15)))))))
def ZL[dL] :=FB 287 Tryz.f287 WT [.b,.b,.b] (λx=>O2 x.1) [] [] (by kernel_rfl) λx=>by simp only[O2,tm];kernel_rfl
def J8(a0:xx):Option (Bool×Unit):=
 (Fo a0.kind 1 16).bind λy1=>br (!y1.1) (some (false,())) ((Fo a0.server 0 4).bind λy2=>br (!y2.1) (some (false,())) ((Fo a0.other 0 4).bind λy3=>br (!y3.1) (some (false,())) ((Fo a0.n 0 999).bind λy4=>br (!y4.1) (some (false,())) ((O2 a0.kind).bind λy5=>let j7:Option (Bool×Unit):=br (a0.kind==1) ((F2 a0.op).bind λy6=>some (y6.1,())) (some (((a0.op.client==0)&&((a0.op.seq==0)&&((a0.op.kind==0)&&((a0.op.object==0)&&((a0.op.old==0)&&((a0.op.value==0)&&true)))))),()));br (!y5.1) (br (!(a0.server==0)) (some (false,())) (br (!y5.2.1) (br (!(a0.other==0)) (some (false,())) (br (!y5.2.2.1) (br (!(a0.n==0)) (some (false,())) (j7)) (j7))) (br (!y5.2.2.1) (br (!(a0.n==0)) (some (false,())) (j7)) (j7)))) (br (!y5.2.1) (br (!(a0.other==0)) (some (false,())) (br (!y5.2.2.1) (br (!(a0.n==0)) (some (false,())) (j7)) (j7))) (br (!y5.2.2.1) (br (!(a0.n==0)) (some (false,())) (j7)) (j7)))))))
def Uz[dL] :=FB 270 Tryz.f270 [.ty (.st .event)] [.b] (λx=>J8 x.1) [F7,ZL,M4] [] (by kernel_rfl) λx=>by simp only[J8,tm];kernel_rfl
def FT(a0:qQ)(a1:Int):Option (Bool×Unit):=
 (Fi a0 a1).bind λy1=>br y1.1 (br a0.up ((F8 a0.config a1).bind λy2=>br (y2.1==1) (some ((a0.epoch==a0.config.epoch),())) (some (false,()))) (some (false,()))) (some (false,()))
def Kg[dL] :=FB 72 Tryz.f72 VN [.b] (λx=>FT x.1 x.2.1) [PX,N1] [] (by kernel_rfl) λx=>by simp only[FT,tm];kernel_rfl
abbrev UX:LX:=⟨⟨[QB,LW,Re,Ot],[],[],0,33⟩,[(.ret,⟨[OA],[],[],0,33⟩),(.ext 0,⟨[aaL],[],[],0,33⟩)],[],[0,1,2,7],[6]⟩
def L9(s: (List sf×Int×Int×Int×Unit)×Unit×Unit):UX.R:=
 br (decide (s.1.2.2.2.1< (s.1.1.length:Int))) (iteP (0<=s.1.2.2.2.1) ((s.1.1[s.1.2.2.2.1.toNat]?).bind λx5=>br (x5.op.client==s.1.2.1) (iteP (0<=s.1.2.2.2.1) ((s.1.1[s.1.2.2.2.1.toNat]?).bind λx6=>br (x6.op.seq==s.1.2.2.1) (some (.inr (.inl (s.1.2.2.2,(()),(()))))) (some (.inl ((s.1.1,s.1.2.1,s.1.2.2.1,(IntKind.wrap .i64 (s.1.2.2.2.1+1)),()),(()),(()))))) none) (some (.inl ((s.1.1,s.1.2.1,s.1.2.2.1,(IntKind.wrap .i64 (s.1.2.2.2.1+1)),()),(()),(()))))) none) (some (.inr (.inr (((),()),(()),(())))))
def Yv:=md L9
def YI[dL] :=Ik Tryz.f139 [0] UX L9 [] [] (by kernel_rfl) λs=>by simp only[L9,tm];kernel_rfl
def OW(a0:List sf)(a1:Int)(a2:Int):Option (Int×Unit):=
 (Yv ((a0,a1,a2,0,()),(()),(()))).bind λe7=>Sum.elim (λe7_0=>some e7_0.1) (λ_=>some ((-1),())) e7
def Xo[dL] :=FB 139 Tryz.f139 acy Kk (λx=>OW x.1 x.2.1 x.2.2.1) [] [YI] (by kernel_rfl) λx=>by simp only[OW,tm];kernel_rfl
def Nx:Option (nX×Unit):=
 some ((⟨([0,0,0]:List Int),([]:List nY)⟩:nX),())
def WG[dL] :=FB 222 Tryz.f222 [] [.st .machine] (λ_=>Nx) [] [] (by kernel_rfl) λx=>by simp only[Nx,tm];kernel_rfl
def Qi(a0:nX):Option (nX×Unit):=
 iteP ((([]:List Int)++a0.objects).length*8<=2 ^ 40) (iteP ((([]:List nY)++a0.sessions).length*32<=2 ^ 40) (some ((⟨(([]:List Int)++a0.objects),(([]:List nY)++a0.sessions)⟩:nX),())) none) none
def aaE[dL] :=FB 223 Tryz.f223 [.ty (.st .machine)] [.st .machine] (λx=>Qi x.1) [] [] (by kernel_rfl) λx=>by simp only[Qi,tm];kernel_rfl
abbrev Of:LX:=⟨⟨[LV,OM],[YD],[],0,69⟩,[(.ret,⟨[LV,Oz],[YD],[],0,69⟩),(.ext 0,⟨[LV,Nr],[YD],[],0,69⟩)],[],[1,3],[1,2]⟩
def Jr(s:UW×(ads×Unit)×Unit):Of.R:=
 br (decide (s.1.2.1< (s.2.1.1.1.length:Int))) (iteP (0<=s.1.2.1) ((s.2.1.1.1[s.1.2.1.toNat]?).bind λx4=>(Fo x4 0 9).bind λy5=>br (!y5.1) (some (.inr (.inl (((),false,()),s.2.1,(()))))) (some (.inl (((),(IntKind.wrap .i64 (s.1.2.1+1)),()),s.2.1,(()))))) none) (some (.inr (.inr (((),(),()),s.2.1,(())))))
def RA:=md Jr
def RG[dL] :=Ik Tryz.f224 [0] Of Jr [F7] [] (by kernel_rfl) λs=>by simp only[Jr,tm];kernel_rfl
abbrev Og:LX:=⟨⟨[LV,Oq],[YD],[],0,69⟩,[(.ret,⟨[LV,Oz],[YD],[],0,69⟩),(.ext 2,⟨[LV,Nr],[YD],[],0,69⟩)],[],[1,4],[1,2]⟩
def Js(s:UW×(ads×Unit)×Unit):Og.R:=
 br (decide (s.1.2.1< (s.2.1.1.2.1.length:Int))) (iteP (0<=s.1.2.1) ((s.2.1.1.2.1[s.1.2.1.toNat]?).bind λx10=>(Fo x10.client 0 2).bind λy11=>br (!y11.1) (some (.inr (.inl (((),false,()),s.2.1,(()))))) ((Fo x10.seq 1 99).bind λy12=>br (!y12.1) (some (.inr (.inl (((),false,()),s.2.1,(()))))) ((Fo x10.result.value 0 9).bind λy13=>br (!y13.1) (some (.inr (.inl (((),false,()),s.2.1,(()))))) (br (decide (s.1.2.1>0)) (iteP (0<=(IntKind.wrap .i64 (s.1.2.1-1))) ((s.2.1.1.2.1[(IntKind.wrap .i64 (s.1.2.1-1)).toNat]?).bind λx14=>br (decide (x14.client≥x10.client)) (some (.inr (.inl (((),false,()),s.2.1,(()))))) (some (.inl (((),(IntKind.wrap .i64 (s.1.2.1+1)),()),s.2.1,(()))))) none) (some (.inl (((),(IntKind.wrap .i64 (s.1.2.1+1)),()),s.2.1,(())))))))) none) (some (.inr (.inr (((),(),()),s.2.1,(())))))
def N5:=md Js
def RH[dL] :=Ik Tryz.f224 [1] Og Js [F7] [] (by kernel_rfl) λs=>by simp only[Js,tm];kernel_rfl
def Ig(a0:nX):Option (Bool×Unit):=
 (RA (((),0,()),((a0.objects,a0.sessions,()),()),(()))).bind λe6=>Sum.elim (λe6_0=>some e6_0.1.2) (λe6_1=>(N5 (((),0,()),e6_1.2.1,(()))).bind λe15=>Sum.elim (λe15_0=>some e15_0.1.2) (λe15_1=>some (((e15_1.2.1.1.1.length:Int)==3),())) e15) e6
def O6[dL] :=FB 224 Tryz.f224 [.ty (.st .machine)] [.b] (λx=>Ig x.1) [] [RG,RH] (by kernel_rfl) λx=>by simp only[Ig,tm];kernel_rfl
abbrev Rr:LX:=⟨⟨[LW,M9,Tm,OA],[YD,aa1],[],0,28⟩,[(.ret,⟨[Pi,(5,.cl (.bl))],[aa1],[],0,28⟩),(.ext 0,⟨[Pi,(5,.cl (.dead))],[aa1],[],0,28⟩)],[],[1,2,4,6],[4,5]⟩
def ME(s: (Int×Unit×Unit×Int×Unit)×(ads×(Int×Int×Bool×Int×Unit)×Unit)×Unit):Rr.R:=
 br (decide (s.1.2.2.2.1< (s.2.1.1.2.1.length:Int))) (iteP (0<=s.1.2.2.2.1) ((s.2.1.1.2.1[s.1.2.2.2.1.toNat]?).bind λx9=>br (x9.client==s.1.1) (iteP (0<=s.1.2.2.2.1) ((s.2.1.1.2.1[s.1.2.2.2.1.toNat]?).bind λx10=>some (.inr (.inl (((),true,()),((x10.client,x10.seq,x10.result.done,x10.result.value,()),()),(()))))) none) (some (.inl ((s.1.1,(),(),(IntKind.wrap .i64 (s.1.2.2.2.1+1)),()),s.2.1,(()))))) none) (some (.inr (.inr (((),(),()),s.2.1.2,(())))))
def VL:=md ME
def V5[dL] :=Ik Tryz.f225 [0] Rr ME [] [] (by kernel_rfl) λs=>by simp only[ME,tm];kernel_rfl
def MV(a0:nX)(a1:Int):Option (nY×Bool×Unit):=
 (VL ((a1,(),(),0,()),((a0.objects,a0.sessions,()),(0,0,false,0,()),()),(()))).bind λe11=>Sum.elim (λe11_0=>some ((⟨e11_0.2.1.1.1,e11_0.2.1.1.2.1,(⟨e11_0.2.1.1.2.2.1,e11_0.2.1.1.2.2.2.1⟩:Result)⟩:nY),e11_0.1.2)) (λ_=>some ((⟨0,0,(⟨false,0⟩:Result)⟩:nY),false,())) e11
def Xu[dL] :=FB 225 Tryz.f225 acz [.st .session,.b] (λx=>MV x.1 x.2.1) [] [V5] (by kernel_rfl) λx=>by simp only[MV,tm];kernel_rfl
abbrev Si:LX:=⟨⟨[Tn,Tm,(5,.cl (.ptr 2 0)),aaM,Rf,(11,.cl (.ptr 4 0)),Qz],[ac5,[.em,.em],Zg,Zh,Zg],ab4,0,127⟩,[(.ext 0,⟨[Tn,Tm,(5,.cl (.ptr 2 0)),aaM,Rf,(11,.cl (.ptr 4 0)),Qz],[ac5,[.em,.em],Zg,Zh,Zg],ab4,0,127⟩)],[],[3,4,5,7,9,11,12],[3,4,5,7,9,11,12]⟩
def Kq(s: (Unit×Unit×Unit×Unit×Bool×Unit×Int×Unit)×((Int×Int×Int×Int×Int×Int×Unit)×aaZ×(Bool×Int×Unit)×aaZ×(Bool×Int×Unit)×Unit)×List Int×List nY×Unit):Si.R:=
 br (decide (s.1.2.2.2.2.2.2.1< (s.2.2.2.1.length:Int))) (iteP (0<=s.1.2.2.2.2.2.2.1/\s.1.2.2.2.2.2.2.1< (s.2.2.2.1.length:Int)) ((s.2.2.2.1[s.1.2.2.2.2.2.2.1.toNat]?).bind λx22=>br (decide (x22.client<s.2.1.1.1)) (some (.inl (((),(),(),(),s.1.2.2.2.2.1,(),(IntKind.wrap .i64 (s.1.2.2.2.2.2.2.1+1)),()),s.2))) (some (.inr s))) none) (some (.inr s))
def NE:=md Kq
def WW[dL] :=Ik Tryz.f141 [0] Si Kq [] [] (by kernel_rfl) λs=>by simp only[Kq,tm];kernel_rfl
def Md(a0:nX)(a1:Op):Option (nX×Result×Bool×Unit):=
 (Qi a0).bind λy1=>(Ig a0).bind λy2=>br (!y2.1) (some (y1.1,(⟨false,0⟩:Result),false,())) ((F2 a1).bind λy3=>br (!y3.1) (some (y1.1,(⟨false,0⟩:Result),false,())) ((MV a0 a1.client).bind λy4=>let j45:Option (nX×Result×Bool×Unit):=let j44:Option (nX×Result×Bool×Unit):=iteP (0<=a1.object) ((a0.objects[a1.object.toNat]?).bind λx5=>br (a1.kind==1) (iteP (0<=a1.object/\a1.object< (y1.1.objects.length:Int)) ((y1.1.objects[a1.object.toNat]?).bind λ_=>(NE (((),(),(),(),y4.2.1,(),0,()),((a1.client,a1.seq,a1.kind,a1.object,a1.old,a1.value,()),((),(),()),(false,0,()),((),(),()),(true,x5,()),()),(y1.1.objects.set a1.object.toNat a1.value),y1.1.sessions,())).bind λe23=>iteP (0<=e23.1.2.2.2.2.2.2.1/\e23.1.2.2.2.2.2.2.1<=(e23.2.2.2.1.length:Int)/\(e23.2.2.2.1.length:Int)<=((e23.2.2.2.1.length:Nat):Int)) (br e23.1.2.2.2.2.1 (iteP (0<=(IntKind.wrap .i64 (e23.1.2.2.2.2.2.2.1+1))/\(IntKind.wrap .i64 (e23.1.2.2.2.2.2.2.1+1))<=(e23.2.2.2.1.length:Int)/\(e23.2.2.2.1.length:Int)<=((e23.2.2.2.1.length:Nat):Int)) (iteP (0<=(0:Int)/\(0:Int)<=e23.1.2.2.2.2.2.2.1/\e23.1.2.2.2.2.2.2.1<=((e23.2.2.2.1.length:Nat):Int)) (iteP ((0+(0:Int).toNat)+(e23.1.2.2.2.2.2.2.1.toNat-(0:Int).toNat)<=e23.2.2.2.1.length) (iteP ((([]:List nY)++((e23.2.2.2.1.drop (0+(0:Int).toNat)).take (e23.1.2.2.2.2.2.2.1.toNat-(0:Int).toNat))).length*32<=2 ^ 40) (iteP (((([]:List nY)++((e23.2.2.2.1.drop (0+(0:Int).toNat)).take (e23.1.2.2.2.2.2.2.1.toNat-(0:Int).toNat)))++([(⟨e23.2.1.1.1,e23.2.1.1.2.1,(⟨e23.2.1.2.2.2.2.1.1,e23.2.1.2.2.2.2.1.2.1⟩:Result)⟩:nY)]:List nY)).length*32<=2 ^ 40) (iteP ((0+(IntKind.wrap .i64 (e23.1.2.2.2.2.2.2.1+1)).toNat)+((e23.2.2.2.1.length:Int).toNat-(IntKind.wrap .i64 (e23.1.2.2.2.2.2.2.1+1)).toNat)<=e23.2.2.2.1.length) (iteP ((((([]:List nY)++((e23.2.2.2.1.drop (0+(0:Int).toNat)).take (e23.1.2.2.2.2.2.2.1.toNat-(0:Int).toNat)))++([(⟨e23.2.1.1.1,e23.2.1.1.2.1,(⟨e23.2.1.2.2.2.2.1.1,e23.2.1.2.2.2.2.1.2.1⟩:Result)⟩:nY)]:List nY))++((e23.2.2.2.1.drop (0+(IntKind.wrap .i64 (e23.1.2.2.2.2.2.2.1+1)).toNat)).take ((e23.2.2.2.1.length:Int).toNat-(IntKind.wrap .i64 (e23.1.2.2.2.2.2.2.1+1)).toNat))).length*32<=2 ^ 40) (some ((⟨e23.2.2.1,(((([]:List nY)++((e23.2.2.2.1.drop (0+(0:Int).toNat)).take (e23.1.2.2.2.2.2.2.1.toNat-(0:Int).toNat)))++([(⟨e23.2.1.1.1,e23.2.1.1.2.1,(⟨e23.2.1.2.2.2.2.1.1,e23.2.1.2.2.2.2.1.2.1⟩:Result)⟩:nY)]:List nY))++((e23.2.2.2.1.drop (0+(IntKind.wrap .i64 (e23.1.2.2.2.2.2.2.1+1)).toNat)).take ((e23.2.2.2.1.length:Int).toNat-(IntKind.wrap .i64 (e23.1.2.2.2.2.2.2.1+1)).toNat)))⟩:nX),(⟨e23.2.1.2.2.2.2.1.1,e23.2.1.2.2.2.2.1.2.1⟩:Result),true,())) none) none) none) none) none) none) none) (iteP (0<=(0:Int)/\(0:Int)<=e23.1.2.2.2.2.2.2.1/\e23.1.2.2.2.2.2.2.1<=((e23.2.2.2.1.length:Nat):Int)) (iteP ((0+(0:Int).toNat)+(e23.1.2.2.2.2.2.2.1.toNat-(0:Int).toNat)<=e23.2.2.2.1.length) (iteP ((([]:List nY)++((e23.2.2.2.1.drop (0+(0:Int).toNat)).take (e23.1.2.2.2.2.2.2.1.toNat-(0:Int).toNat))).length*32<=2 ^ 40) (iteP (((([]:List nY)++((e23.2.2.2.1.drop (0+(0:Int).toNat)).take (e23.1.2.2.2.2.2.2.1.toNat-(0:Int).toNat)))++([(⟨e23.2.1.1.1,e23.2.1.1.2.1,(⟨e23.2.1.2.2.2.2.1.1,e23.2.1.2.2.2.2.1.2.1⟩:Result)⟩:nY)]:List nY)).length*32<=2 ^ 40) (iteP ((0+e23.1.2.2.2.2.2.2.1.toNat)+((e23.2.2.2.1.length:Int).toNat-e23.1.2.2.2.2.2.2.1.toNat)<=e23.2.2.2.1.length) (iteP ((((([]:List nY)++((e23.2.2.2.1.drop (0+(0:Int).toNat)).take (e23.1.2.2.2.2.2.2.1.toNat-(0:Int).toNat)))++([(⟨e23.2.1.1.1,e23.2.1.1.2.1,(⟨e23.2.1.2.2.2.2.1.1,e23.2.1.2.2.2.2.1.2.1⟩:Result)⟩:nY)]:List nY))++((e23.2.2.2.1.drop (0+e23.1.2.2.2.2.2.2.1.toNat)).take ((e23.2.2.2.1.length:Int).toNat-e23.1.2.2.2.2.2.2.1.toNat))).length*32<=2 ^ 40) (some ((⟨e23.2.2.1,(((([]:List nY)++((e23.2.2.2.1.drop (0+(0:Int).toNat)).take (e23.1.2.2.2.2.2.2.1.toNat-(0:Int).toNat)))++([(⟨e23.2.1.1.1,e23.2.1.1.2.1,(⟨e23.2.1.2.2.2.2.1.1,e23.2.1.2.2.2.2.1.2.1⟩:Result)⟩:nY)]:List nY))++((e23.2.2.2.1.drop (0+e23.1.2.2.2.2.2.2.1.toNat)).take ((e23.2.2.2.1.length:Int).toNat-e23.1.2.2.2.2.2.2.1.toNat)))⟩:nX),(⟨e23.2.1.2.2.2.2.1.1,e23.2.1.2.2.2.2.1.2.1⟩:Result),true,())) none) none) none) none) none) none)) none) none) (let j43 (p26:List Int):Option (nX×Result×Bool×Unit):=(NE (((),(),(),(),y4.2.1,(),0,()),((a1.client,a1.seq,a1.kind,a1.object,a1.old,a1.value,()),((),(),()),(false,0,()),((),(),()),((x5==a1.old),x5,()),()),p26,y1.1.sessions,())).bind λe42=>iteP (0<=e42.1.2.2.2.2.2.2.1/\e42.1.2.2.2.2.2.2.1<=(e42.2.2.2.1.length:Int)/\(e42.2.2.2.1.length:Int)<=((e42.2.2.2.1.length:Nat):Int)) (br e42.1.2.2.2.2.1 (iteP (0<=(IntKind.wrap .i64 (e42.1.2.2.2.2.2.2.1+1))/\(IntKind.wrap .i64 (e42.1.2.2.2.2.2.2.1+1))<=(e42.2.2.2.1.length:Int)/\(e42.2.2.2.1.length:Int)<=((e42.2.2.2.1.length:Nat):Int)) (iteP (0<=(0:Int)/\(0:Int)<=e42.1.2.2.2.2.2.2.1/\e42.1.2.2.2.2.2.2.1<=((e42.2.2.2.1.length:Nat):Int)) (iteP ((0+(0:Int).toNat)+(e42.1.2.2.2.2.2.2.1.toNat-(0:Int).toNat)<=e42.2.2.2.1.length) (iteP ((([]:List nY)++((e42.2.2.2.1.drop (0+(0:Int).toNat)).take (e42.1.2.2.2.2.2.2.1.toNat-(0:Int).toNat))).length*32<=2 ^ 40) (iteP (((([]:List nY)++((e42.2.2.2.1.drop (0+(0:Int).toNat)).take (e42.1.2.2.2.2.2.2.1.toNat-(0:Int).toNat)))++([(⟨e42.2.1.1.1,e42.2.1.1.2.1,(⟨e42.2.1.2.2.2.2.1.1,e42.2.1.2.2.2.2.1.2.1⟩:Result)⟩:nY)]:List nY)).length*32<=2 ^ 40) (iteP ((0+(IntKind.wrap .i64 (e42.1.2.2.2.2.2.2.1+1)).toNat)+((e42.2.2.2.1.length:Int).toNat-(IntKind.wrap .i64 (e42.1.2.2.2.2.2.2.1+1)).toNat)<=e42.2.2.2.1.length) (iteP ((((([]:List nY)++((e42.2.2.2.1.drop (0+(0:Int).toNat)).take (e42.1.2.2.2.2.2.2.1.toNat-(0:Int).toNat)))++([(⟨e42.2.1.1.1,e42.2.1.1.2.1,(⟨e42.2.1.2.2.2.2.1.1,e42.2.1.2.2.2.2.1.2.1⟩:Result)⟩:nY)]:List nY))++((e42.2.2.2.1.drop (0+(IntKind.wrap .i64 (e42.1.2.2.2.2.2.2.1+1)).toNat)).take ((e42.2.2.2.1.length:Int).toNat-(IntKind.wrap .i64 (e42.1.2.2.2.2.2.2.1+1)).toNat))).length*32<=2 ^ 40) (some ((⟨e42.2.2.1,(((([]:List nY)++((e42.2.2.2.1.drop (0+(0:Int).toNat)).take (e42.1.2.2.2.2.2.2.1.toNat-(0:Int).toNat)))++([(⟨e42.2.1.1.1,e42.2.1.1.2.1,(⟨e42.2.1.2.2.2.2.1.1,e42.2.1.2.2.2.2.1.2.1⟩:Result)⟩:nY)]:List nY))++((e42.2.2.2.1.drop (0+(IntKind.wrap .i64 (e42.1.2.2.2.2.2.2.1+1)).toNat)).take ((e42.2.2.2.1.length:Int).toNat-(IntKind.wrap .i64 (e42.1.2.2.2.2.2.2.1+1)).toNat)))⟩:nX),(⟨e42.2.1.2.2.2.2.1.1,e42.2.1.2.2.2.2.1.2.1⟩:Result),true,())) none) none) none) none) none) none) none) (iteP (0<=(0:Int)/\(0:Int)<=e42.1.2.2.2.2.2.2.1/\e42.1.2.2.2.2.2.2.1<=((e42.2.2.2.1.length:Nat):Int)) (iteP ((0+(0:Int).toNat)+(e42.1.2.2.2.2.2.2.1.toNat-(0:Int).toNat)<=e42.2.2.2.1.length) (iteP ((([]:List nY)++((e42.2.2.2.1.drop (0+(0:Int).toNat)).take (e42.1.2.2.2.2.2.2.1.toNat-(0:Int).toNat))).length*32<=2 ^ 40) (iteP (((([]:List nY)++((e42.2.2.2.1.drop (0+(0:Int).toNat)).take (e42.1.2.2.2.2.2.2.1.toNat-(0:Int).toNat)))++([(⟨e42.2.1.1.1,e42.2.1.1.2.1,(⟨e42.2.1.2.2.2.2.1.1,e42.2.1.2.2.2.2.1.2.1⟩:Result)⟩:nY)]:List nY)).length*32<=2 ^ 40) (iteP ((0+e42.1.2.2.2.2.2.2.1.toNat)+((e42.2.2.2.1.length:Int).toNat-e42.1.2.2.2.2.2.2.1.toNat)<=e42.2.2.2.1.length) (iteP ((((([]:List nY)++((e42.2.2.2.1.drop (0+(0:Int).toNat)).take (e42.1.2.2.2.2.2.2.1.toNat-(0:Int).toNat)))++([(⟨e42.2.1.1.1,e42.2.1.1.2.1,(⟨e42.2.1.2.2.2.2.1.1,e42.2.1.2.2.2.2.1.2.1⟩:Result)⟩:nY)]:List nY))++((e42.2.2.2.1.drop (0+e42.1.2.2.2.2.2.2.1.toNat)).take ((e42.2.2.2.1.length:Int).toNat-e42.1.2.2.2.2.2.2.1.toNat))).length*32<=2 ^ 40) (some ((⟨e42.2.2.1,(((([]:List nY)++((e42.2.2.2.1.drop (0+(0:Int).toNat)).take (e42.1.2.2.2.2.2.2.1.toNat-(0:Int).toNat)))++([(⟨e42.2.1.1.1,e42.2.1.1.2.1,(⟨e42.2.1.2.2.2.2.1.1,e42.2.1.2.2.2.2.1.2.1⟩:Result)⟩:nY)]:List nY))++((e42.2.2.2.1.drop (0+e42.1.2.2.2.2.2.2.1.toNat)).take ((e42.2.2.2.1.length:Int).toNat-e42.1.2.2.2.2.2.2.1.toNat)))⟩:nX),(⟨e42.2.1.2.2.2.2.1.1,e42.2.1.2.2.2.2.1.2.1⟩:Result),true,())) none) none) none) none) none) none)) none;br (x5==a1.old) (iteP (0<=a1.object/\a1.object< (y1.1.objects.length:Int)) ((y1.1.objects[a1.object.toNat]?).bind λ_=>j43 (y1.1.objects.set a1.object.toNat a1.value)) none) (j43 y1.1.objects))) none;br y4.2.1 (br (decide (y4.1.seq>a1.seq)) (some (y1.1,(⟨false,0⟩:Result),false,())) (j44)) (j44);br y4.2.1 (br (y4.1.seq==a1.seq) (some (y1.1,y4.1.result,true,())) (j45)) (j45)))
def SB[dL] :=FB 141 Tryz.f141 [.ty (.st .machine),.ty (.st .op)] [.st .machine,.st .result,.b] (λx=>Md x.1 x.2.1) [aaE,O6,M4,Xu] [WW] (by kernel_rfl) λx=>by simp only[Md,tm];kernel_rfl
abbrev Rp:LX:=⟨⟨[QB,M9,Tm,Ob],[[.em,.em],Zh],ab4,0,29⟩,[(.ext 0,⟨[M9,Tm],[[.em,.em],Zh],ab4,0,29⟩)],[],[0,2,4,5],[2,4]⟩
def MC(s: (List sf×Unit×Unit×Int×Unit)×(aaZ×aaZ×Unit)×List Int×List nY×Unit):Rp.R:=
 br (decide (s.1.2.2.2.1< (s.1.1.length:Int))) (iteP (0<=s.1.2.2.2.1) ((s.1.1[s.1.2.2.2.1.toNat]?).bind λx7=>(Md (⟨s.2.2.1,s.2.2.2.1⟩:nX) x7.op).bind λy8=>some (.inl ((s.1.1,(),(),(IntKind.wrap .i64 (s.1.2.2.2.1+1)),()),(((),(),()),((),(),()),()),y8.1.objects,y8.1.sessions,()))) none) (some (.inr (((),(),()),s.2)))
def VJ:=md MC
def V3[dL] :=Ik Tryz.f140 [0] Rp MC [SB] [] (by kernel_rfl) λs=>by simp only[MC,tm];kernel_rfl
def Ka(a0:List sf):Option (nX×Bool×Unit):=
 (Nx).bind λy1=>(F9 a0).bind λy2=>br (!y2.1) (some ((⟨([]:List Int),([]:List nY)⟩:nX),false,())) ((VJ ((a0,(),(),0,()),(((),(),()),((),(),()),()),y1.1.objects,y1.1.sessions,())).bind λe9=>some ((⟨e9.2.2.1,e9.2.2.2.1⟩:nX),true,()))
def Qq[dL] :=FB 140 Tryz.f140 Sd [.st .machine,.b] (λx=>Ka x.1) [WG,NB] [V3] (by kernel_rfl) λx=>by simp only[Ka,tm];kernel_rfl
def IV(a0:Op):Option (Bool×Unit):=
 some ((a0.kind==2),())
def Ra[dL] :=FB 142 Tryz.f142 XE [.b] (λx=>IV x.1) [] [] (by kernel_rfl) λx=>by simp only[IV,tm];kernel_rfl
def HF(a0:qN)(a1:Int):Option (Bool×Unit):=
 (Ff a0).bind λy1=>br y1.1 ((Fo a1 0 4).bind λy2=>br y2.1 (iteP (0<=a1) ((a0.servers[a1.toNat]?).bind λx3=>(FT x3 a1).bind λy4=>some (y4.1,())) none) (some (false,()))) (some (false,()))
def NC[dL] :=FB 197 Tryz.f197 M8 [.b] (λx=>HF x.1 x.2.1) [Fq,F7,Kg] [] (by kernel_rfl) λx=>by simp only[HF,tm];kernel_rfl
abbrev Pr:LX:=⟨⟨[Pk,Sf,Oa,OA],[],JA,0,34⟩,[(.ext 0,⟨[Sf,Oa],[],JA,0,34⟩)],[],[0,1,5,6],[1,5]⟩
def H9(s:adr×Unit×List Int×Unit):Pr.R:=
 br (decide (s.1.2.2.2.1< (s.1.1.length:Int))) (iteP (0<=s.1.2.2.2.1) ((s.1.1[s.1.2.2.2.1.toNat]?).bind λx5=>(I2 s.2.2.1 x5).bind λy6=>some (.inl ((s.1.1,s.1.2.1,(),(IntKind.wrap .i64 (s.1.2.2.2.1+1)),()),(()),y6.1,()))) none) (some (.inr ((s.1.2.1,(),()),(()),s.2.2)))
def Pc:=md H9
def SW[dL] :=Ik Tryz.f129 [0] Pr H9 [PO] [] (by kernel_rfl) λs=>by simp only[H9,tm];kernel_rfl
abbrev Ps:LX:=⟨⟨[Sf,Oa,Ot],[],JA,0,34⟩,[(.ext 2,⟨[Oa],[],JA,0,34⟩)],[],[1,5,7],[5]⟩
def Ia(s:acX×Unit×List Int×Unit):Ps.R:=
 br (decide (s.1.2.2.1< (s.1.1.length:Int))) (iteP (0<=s.1.2.2.1) ((s.1.1[s.1.2.2.1.toNat]?).bind λx11=>(I2 s.2.2.1 x11).bind λy12=>some (.inl ((s.1.1,(),(IntKind.wrap .i64 (s.1.2.2.1+1)),()),(()),y12.1,()))) none) (some (.inr (((),()),(()),s.2.2)))
def Pd:=md Ia
def SX[dL] :=Ik Tryz.f129 [1] Ps Ia [PO] [] (by kernel_rfl) λs=>by simp only[Ia,tm];kernel_rfl
def Jg(a0:List Int)(a1:List Int):Option ((List Int)×Unit):=
 (Pc ((a0,a1,(),0,()),(()),([]:List Int),())).bind λe7=>(Pd ((e7.1.1,(),0,()),(()),e7.2.2)).bind λe13=>some e13.2.2
def UF[dL] :=FB 129 Tryz.f129 WU L5 (λx=>Jg x.1 x.2.1) [] [SW,SX] (by kernel_rfl) λx=>by simp only[Jg,tm];kernel_rfl
def FV(a0:om):Option ((List Int)×Unit):=
 (Fk a0).bind λy1=>br (!y1.1) (some (([]:List Int),())) ((Jg a0.replicas a0.witnesses).bind λy2=>some (y2.1,()))
def Jo[dL] :=FB 40 Tryz.f40 YA L5 (λx=>FV x.1) [JK,UF] [] (by kernel_rfl) λx=>by simp only[FV,tm];kernel_rfl
abbrev P4:LX:=⟨⟨[M9,Ob,Y5,Ot],[KC],JA,0,37⟩,[(.ext 0,⟨[Ob],[],[],0,37⟩)],[],[2,5,6,7],[5]⟩
def K1(s:acY×(NF×Unit)×List Int×Unit):P4.R:=
 br (decide (s.1.2.2.2.1< (s.2.2.1.length:Int))) (iteP (0<=s.1.2.2.2.1/\s.1.2.2.2.1< (s.2.2.1.length:Int)) ((s.2.2.1[s.1.2.2.2.1.toNat]?).bind λx17=>iteP (0<=x17) ((s.2.1.1.2.1[x17.toNat]?).bind λx18=>some (.inl (((),(if x18.version<s.1.2.1 then x18.version else s.1.2.1),(),(IntKind.wrap .i64 (s.1.2.2.2.1+1)),()),s.2))) none) none) (some (.inr ((s.1.2.1,()),(()),(()))))
def TN:=md K1
def TW[dL] :=Ik Tryz.f143 [0] P4 K1 [] [] (by kernel_rfl) λs=>by simp only[K1,tm];kernel_rfl
def KN(a0:qN)(a1:Int):Option (Int×Unit):=
 (HF a0 a1).bind λy1=>br (!y1.1) (some (0,())) (iteP (0<=a1) ((a0.servers[a1.toNat]?).bind λx2=>(FV x2.config).bind λy3=>(TN (((),2,(),0,()),((a0.now,a0.servers,a0.sides,a0.master.configs,a0.master.activated,a0.masterUp,a0.lease.epoch,a0.lease.holder,a0.lease.ends,a0.places,()),()),y3.1,())).bind λe19=>some e19.1) none)
def VA[dL] :=FB 143 Tryz.f143 M8 Kk (λx=>KN x.1 x.2.1) [NC,Jo] [TW] (by kernel_rfl) λx=>by simp only[KN,tm];kernel_rfl
def IK(a0:qN)(a1:Int)(a2:Op):Option (qN×Int×Unit):=
 (FS a0).bind λy1=>(Ff a0).bind λy2=>br (!y2.1) (some (y1.1,1,())) ((Fo a1 0 4).bind λy3=>br (!y3.1) (some (y1.1,1,())) ((F2 a2).bind λy4=>br (!y4.1) (some (y1.1,1,())) (iteP (0<=a1) ((a0.servers[a1.toNat]?).bind λx5=>br (!x5.up) (some (y1.1,2,())) ((FT x5 a1).bind λy6=>br (!y6.1) (some (y1.1,3,())) ((OW x5.log a2.client a2.seq).bind λy7=>let j18:Option (qN×Int×Unit):=(Ka x5.log).bind λy9=>(Md y9.1 a2).bind λy10=>br (!y10.2.2.1) (some (y1.1,11,())) ((IV a2).bind λy11=>let j17:Option (qN×Int×Unit):=iteP (0<=a1/\a1< (y1.1.servers.length:Int)) ((y1.1.servers[a1.toNat]?).bind λx13=>(y1.1.servers[a1.toNat]?).bind λx14=>iteP ((0:Nat)=0) (iteP (x14.log.length<x13.log.length) none (iteP ((x14.log.take x13.log.length++([(⟨x5.epoch,a2⟩:sf)]:List sf)).length*56<=2 ^ 40) (iteP (0<=a1/\a1< (y1.1.servers.length:Int)) ((y1.1.servers[a1.toNat]?).bind λx15=>iteP (a1.toNat=a1.toNat) (some ((⟨y1.1.now,(y1.1.servers.set a1.toNat (⟨x15.up,x15.intact,x15.version,x15.epoch,x15.config,x15.first,(x14.log.take x13.log.length++([(⟨x5.epoch,a2⟩:sf)]:List sf)),x15.commit,x15.learned⟩:qQ)),y1.1.sides,y1.1.master,y1.1.masterUp,y1.1.lease,y1.1.places⟩:qN),0,())) none) none) none)) none) none;br y11.1 ((KN a0 a1).bind λy12=>br (decide (y12.1<2)) (some (y1.1,6,())) (br ((x5.log.length:Int)==16) (some (y1.1,5,())) (j17))) (br ((x5.log.length:Int)==16) (some (y1.1,5,())) (j17)));br (decide (y7.1≥0)) (iteP (0<=y7.1) ((x5.log[y7.1.toNat]?).bind λx8=>br (!((x8.op.client==a2.client)&&((x8.op.seq==a2.seq)&&((x8.op.kind==a2.kind)&&((x8.op.object==a2.object)&&((x8.op.old==a2.old)&&((x8.op.value==a2.value)&&true))))))) (some (y1.1,11,())) (br (decide (y7.1≥0)) (some (y1.1,0,())) (j18))) none) (br (decide (y7.1≥0)) (some (y1.1,0,())) (j18))))) none)))
def R1[dL] :=FB 43 Tryz.f43 acA P8 (λx=>IK x.1 x.2.1 x.2.2.1) [Gn,Fq,F7,M4,Kg,Xo,Qq,SB,Ra,VA] [] (by kernel_rfl) λx=>by simp only[IK,tm,-eq_self];kernel_rfl
def GN(a0:List Int)(a1:Int)(a2:Int):Option (Bool×Unit):=
 (HS a0).bind λy1=>br y1.1 ((Fo a1 0 4).bind λy2=>br y2.1 ((Fo a2 0 4).bind λy3=>br y3.1 (iteP (0<=a1) ((a0[a1.toNat]?).bind λx4=>iteP (0<=a2) ((a0[a2.toNat]?).bind λx5=>some ((x4==x5),())) none) none) (some (false,()))) (some (false,()))) (some (false,()))
def Ml[dL] :=FB 182 Tryz.f182 aaJ [.b] (λx=>GN x.1 x.2.1 x.2.2.1) [PN,F7] [] (by kernel_rfl) λx=>by simp only[GN,tm];kernel_rfl
def HU(a0:qN)(a1:Int)(a2:Int):Option (Bool×Unit):=
 iteP (0<=a2) ((a0.servers[a2.toNat]?).bind λx1=>(GN a0.sides a1 a2).bind λy2=>br y2.1 (br x1.up (iteP (0<=a1) ((a0.servers[a1.toNat]?).bind λx3=>br (x1.epoch==x3.epoch) (iteP (0<=a1) ((a0.servers[a1.toNat]?).bind λx4=>br (decide (x1.commit<=(x4.log.length:Int))) (iteP (0<=a1) ((a0.servers[a1.toNat]?).bind λx5=>(Hf x1.config x5.config).bind λy6=>some (y6.1,())) none) (some (false,()))) none) (some (false,()))) none) (some (false,()))) (some (false,()))) none
def UG[dL] :=FB 73 Tryz.f73 TP [.b] (λx=>HU x.1 x.2.1 x.2.2.1) [Ml,LL] [] (by kernel_rfl) λx=>by simp only[HU,tm];kernel_rfl
def QW(a0:List sf):Option (Int×(List sf)×Unit):=
 (F9 a0).bind λy1=>br (!y1.1) (some (0,([]:List sf),())) (iteP (0<=(if (IntKind.wrap .i64 ((a0.length:Int)-3))>0 then (IntKind.wrap .i64 ((a0.length:Int)-3)) else 0)/\(if (IntKind.wrap .i64 ((a0.length:Int)-3))>0 then (IntKind.wrap .i64 ((a0.length:Int)-3)) else 0)<=(a0.length:Int)/\(a0.length:Int)<=(a0.length:Int)) ((GM ((a0.drop (if (IntKind.wrap .i64 ((a0.length:Int)-3))>0 then (IntKind.wrap .i64 ((a0.length:Int)-3)) else 0).toNat).take ((a0.length:Int).toNat-(if (IntKind.wrap .i64 ((a0.length:Int)-3))>0 then (IntKind.wrap .i64 ((a0.length:Int)-3)) else 0).toNat))).bind λy2=>some ((if (IntKind.wrap .i64 ((a0.length:Int)-3))>0 then (IntKind.wrap .i64 ((a0.length:Int)-3)) else 0),y2.1,())) none)
def ZE[dL] :=FB 265 Tryz.f265 Sd aa0 (λx=>QW x.1) [NB,KS] [] (by kernel_rfl) λx=>by simp only[QW,tm];kernel_rfl
def Qh(a0:List sf):Option (Int×(List sf)×Unit):=
 (QW a0).bind λy1=>some (y1.1,y1.2.1,())
def aaC[dL] :=FB 243 Tryz.f243 Sd aa0 (λx=>Qh x.1) [ZE] [] (by kernel_rfl) λx=>by simp only[Qh,tm];kernel_rfl
def J9(a0:qN)(a1:Int)(a2:Int):Option (qN×Bool×Unit):=
 (FS a0).bind λy1=>(HF a0 a1).bind λy2=>br (!y2.1) (some (y1.1,false,())) (iteP (0<=a1) ((a0.servers[a1.toNat]?).bind λx3=>(FV x3.config).bind λy4=>(F1 y4.1 a2).bind λy5=>br (!y5.1) (some (y1.1,false,())) ((HU a0 a1 a2).bind λy6=>br (!y6.1) (some (y1.1,false,())) (iteP (0<=a1) ((a0.servers[a1.toNat]?).bind λx7=>iteP (0<=a1) ((a0.servers[a1.toNat]?).bind λx8=>(F8 x8.config a2).bind λy9=>br (y9.1==3) ((Qh x7.log).bind λy10=>iteP (0<=a2/\a2< (y1.1.servers.length:Int)) (iteP (0<=a2/\a2< (y1.1.servers.length:Int)) ((y1.1.servers[a2.toNat]?).bind λx11=>let z12:=y1.1.servers.set a2.toNat (⟨x11.up,x11.intact,x11.version,x11.epoch,x11.config,y10.1,x11.log,x11.commit,x11.learned⟩:qQ);(z12[a2.toNat]?).bind λx13=>some ((⟨y1.1.now,(z12.set a2.toNat (⟨x13.up,x13.intact,x13.version,x13.epoch,x13.config,x13.first,y10.2.1,x13.commit,x13.learned⟩:qQ)),y1.1.sides,y1.1.master,y1.1.masterUp,y1.1.lease,y1.1.places⟩:qN),true,())) none) none) ((GM x7.log).bind λy15=>iteP (0<=a2/\a2< (y1.1.servers.length:Int)) ((y1.1.servers[a2.toNat]?).bind λx16=>some ((⟨y1.1.now,(y1.1.servers.set a2.toNat (⟨x16.up,x16.intact,x16.version,x16.epoch,x16.config,x16.first,y15.1,x16.commit,x16.learned⟩:qQ)),y1.1.sides,y1.1.master,y1.1.masterUp,y1.1.lease,y1.1.places⟩:qN),true,())) none)) none) none))) none)
def UC[dL] :=FB 198 Tryz.f198 TP [.st .cluster,.b] (λx=>J9 x.1 x.2.1 x.2.2.1) [Gn,NC,Jo,H4,UG,N1,aaC,KS] [] (by kernel_rfl) λx=>by simp only[J9,tm];kernel_rfl
abbrev LZ:LX:=⟨⟨[LW,Pi,QC,aaN,XH,(9,.cl (.int .i64))],[Na,XJ],aa8,0,74⟩,[(.ext 0,⟨[LW,Pi,QC,aaN,XH],[Na,XJ],aa8,0,74⟩)],[],[1,4,6,7,8,9],[1,4,6,7,8]⟩
def JV(s:aaW×(Nh×Nh×Unit)×List Int×List qQ×List Int×List om×List vB×Unit):LZ.R:=
 br (decide (s.1.2.2.2.2.2.1< (s.2.2.1.length:Int))) (iteP (0<=s.1.2.2.2.2.2.1/\s.1.2.2.2.2.2.1< (s.2.2.1.length:Int)) ((s.2.2.1[s.1.2.2.2.2.2.1.toNat]?).bind λx25=>(J9 (⟨s.2.1.2.1.1,s.2.2.2.1,s.2.2.2.2.1,(⟨s.2.2.2.2.2.1,s.2.1.2.1.2.2.2.2.1⟩:kB),s.2.1.2.1.2.2.2.2.2.1,(⟨s.2.1.2.1.2.2.2.2.2.2.1,s.2.1.2.1.2.2.2.2.2.2.2.1,s.2.1.2.1.2.2.2.2.2.2.2.2.1⟩:vz),s.2.2.2.2.2.2.1⟩:qN) s.1.1 x25).bind λy26=>let j28 (p27:Bool):LZ.R:=some (.inl ((s.1.1,(),(),(),p27,(IntKind.wrap .i64 (s.1.2.2.2.2.2.1+1)),()),(s.2.1.1,(y26.1.now,(),(),(),y26.1.master.activated,y26.1.masterUp,y26.1.lease.epoch,y26.1.lease.holder,y26.1.lease.ends,(),()),()),s.2.2.1,y26.1.servers,y26.1.sides,y26.1.master.configs,y26.1.places,()));br s.1.2.2.2.2.1 (j28 y26.2.1) (j28 false)) none) (some (.inr ((s.1.1,(),(),(),s.1.2.2.2.2.1,()),s.2)))
def Sa:=md JV
def Sq[dL] :=Ik Tryz.f96 [0] LZ JV [UC] [] (by kernel_rfl) λs=>by simp only[JV,tm];kernel_rfl
abbrev Od:LX:=⟨⟨[LW,Pi,QC,aaN,XH,Qz],[Na,XJ],aa8,0,74⟩,[(.ext 2,⟨[Pi,QC,XH],[Na,VP],XK,0,74⟩)],[],[1,4,6,7,8,12],[4,6,8]⟩
def Jq(s:aaW×(Nh×Nh×Unit)×List Int×List qQ×List Int×List om×List vB×Unit):Od.R:=
 br (decide (s.1.2.2.2.2.2.1< (s.2.2.1.length:Int))) (br s.1.2.2.2.2.1 (iteP (0<=s.1.2.2.2.2.2.1/\s.1.2.2.2.2.2.1< (s.2.2.1.length:Int)) ((s.2.2.1[s.1.2.2.2.2.2.1.toNat]?).bind λx50=>iteP (0<=s.1.1/\s.1.1< (s.2.2.2.1.length:Int)) ((s.2.2.2.1[s.1.1.toNat]?).bind λx51=>iteP (0<=x50/\x50< (s.2.2.2.1.length:Int)) ((s.2.2.2.1[x50.toNat]?).bind λx52=>some (.inl ((s.1.1,(),(),(),s.1.2.2.2.2.1,(IntKind.wrap .i64 (s.1.2.2.2.2.2.1+1)),()),s.2.1,s.2.2.1,(s.2.2.2.1.set x50.toNat (⟨x52.up,x52.intact,x52.version,x52.epoch,x52.config,x52.first,x52.log,((x51.log.length:Nat):Int),x52.learned⟩:qQ)),s.2.2.2.2))) none) none) none) (some (.inr (((),(),s.1.2.2.2.2.1,()),s.2.1,s.2.2.2)))) (some (.inr (((),(),s.1.2.2.2.2.1,()),s.2.1,s.2.2.2)))
def Rz:=md Jq
def RE[dL] :=Ik Tryz.f96 [1] Od Jq [] [] (by kernel_rfl) λs=>by simp only[Jq,tm];kernel_rfl
def Ix(a0:qN)(a1:Int):Option (qN×Bool×Unit):=
 (FS a0).bind λy1=>(HF a0 a1).bind λy2=>br (!y2.1) (some (y1.1,false,())) (iteP (0<=a1) ((a0.servers[a1.toNat]?).bind λx3=>(FV x3.config).bind λy4=>(Sa ((a1,(),(),(),true,0,()),((0,(),(),(),0,0,0,0,0,(),()),(y1.1.now,(),(),(),y1.1.master.activated,y1.1.masterUp,y1.1.lease.epoch,y1.1.lease.holder,y1.1.lease.ends,(),()),()),y4.1,y1.1.servers,y1.1.sides,y1.1.master.configs,y1.1.places,())).bind λe29=>(Rz ((e29.1.1,(),(),(),e29.1.2.2.2.2.1,0,()),e29.2)).bind λe54=>some ((⟨e54.2.1.2.1.1,e54.2.2.1,e54.2.2.2.1,(⟨e54.2.2.2.2.1,e54.2.1.2.1.2.2.2.2.1⟩:kB),e54.2.1.2.1.2.2.2.2.2.1,(⟨e54.2.1.2.1.2.2.2.2.2.2.1,e54.2.1.2.1.2.2.2.2.2.2.2.1,e54.2.1.2.1.2.2.2.2.2.2.2.2.1⟩:vz),e54.2.2.2.2.2.1⟩:qN),e54.1.2.2)) none)
def PU[dL] :=FB 96 Tryz.f96 M8 [.st .cluster,.b] (λx=>Ix x.1 x.2.1) [Gn,NC,Jo] [Sq,RE] (by kernel_rfl) λx=>by simp only[Ix,tm];kernel_rfl
def Mg(a0:List sf)(a1:Int):Option (Result×Bool×Unit):=
 (F9 a0).bind λy1=>br (!y1.1) (some ((⟨false,0⟩:Result),false,())) ((Fo a1 0 (IntKind.wrap .i64 ((a0.length:Int)-1))).bind λy2=>br (!y2.1) (some ((⟨false,0⟩:Result),false,())) (iteP (0<=(0:Int)/\(0:Int)<=a1/\a1<=(a0.length:Int)) ((Ka ((a0.drop (0:Int).toNat).take (a1.toNat-(0:Int).toNat))).bind λy3=>iteP (0<=a1) ((a0[a1.toNat]?).bind λx4=>(Md y3.1 x4.op).bind λy5=>some (y5.2.1,y5.2.2.1,())) none) none))
def Ym[dL] :=FB 288 Tryz.f288 aaK [.st .result,.b] (λx=>Mg x.1 x.2.1) [NB,F7,Qq,SB] [] (by kernel_rfl) λx=>by simp only[Mg,tm];kernel_rfl
def NR(a0:qN)(a1:Int)(a2:Op):Option (qN×xB×Unit):=
 (IK a0 a1 a2).bind λy1=>br (!(y1.2.1==0)) (some (y1.1,(⟨y1.2.1,(⟨false,0⟩:Result),0⟩:xB),())) (iteP (0<=a1/\a1< (y1.1.servers.length:Int)) ((y1.1.servers[a1.toNat]?).bind λx2=>(y1.1.servers[a1.toNat]?).bind λx3=>iteP (0+x2.log.length<=x3.log.length) ((OW ((x3.log.drop 0).take x2.log.length) a2.client a2.seq).bind λy4=>iteP (0<=a1/\a1< (y1.1.servers.length:Int)) ((y1.1.servers[a1.toNat]?).bind λx5=>br (decide (y4.1≥x5.commit)) ((Ix y1.1 a1).bind λy6=>br (!y6.2.1) (some (y6.1,(⟨4,(⟨false,0⟩:Result),0⟩:xB),())) (iteP (0<=a1/\a1< (y6.1.servers.length:Int)) ((y6.1.servers[a1.toNat]?).bind λx20=>(y6.1.servers[a1.toNat]?).bind λx21=>iteP (0+x20.log.length<=x21.log.length) ((Mg ((x21.log.drop 0).take x20.log.length) y4.1).bind λy22=>some (y6.1,(⟨0,y22.1,y4.1⟩:xB),())) none) none)) (iteP (0<=a1/\a1< (y1.1.servers.length:Int)) ((y1.1.servers[a1.toNat]?).bind λx23=>(y1.1.servers[a1.toNat]?).bind λx24=>iteP (0+x23.log.length<=x24.log.length) ((Mg ((x24.log.drop 0).take x23.log.length) y4.1).bind λy25=>some (y1.1,(⟨0,y25.1,y4.1⟩:xB),())) none) none)) none) none) none)
def Yh[dL] :=FB 271 Tryz.f271 acA ac3 (λx=>NR x.1 x.2.1 x.2.2.1) [R1,Xo,PU,Ym] [] (by kernel_rfl) λx=>by simp only[NR,tm];kernel_rfl
def Lm(a0:qN)(a1:Int):Option (Int×Unit):=
 (Ff a0).bind λy1=>br (!y1.1) (some (1,())) ((Fo a1 0 4).bind λy2=>br (!y2.1) (some (1,())) (iteP (0<=a1) ((a0.servers[a1.toNat]?).bind λx3=>br (!x3.up) (some (2,())) (some (0,()))) none))
def Th[dL] :=FB 174 Tryz.f174 M8 Kk (λx=>Lm x.1 x.2.1) [Fq,F7] [] (by kernel_rfl) λx=>by simp only[Lm,tm];kernel_rfl
def Lz(a0:vz)(a1:Int)(a2:Int)(a3:Int):Option (Bool×Unit):=
 (HL a0).bind λy1=>br y1.1 ((Fo a3 0 999).bind λy2=>br y2.1 (br (decide (a0.ends>0)) (br (a0.epoch==a1) (br (a0.holder==a2) (some ((decide ((IntKind.wrap .i64 (a3+3))<a0.ends)),())) (some (false,()))) (some (false,()))) (some (false,()))) (some (false,()))) (some (false,()))
def WB[dL] :=FB 305 Tryz.f305 [.ty (.st .lease),.ty (.i .i64),.ty (.i .i64),.ty (.i .i64)] [.b] (λx=>Lz x.1 x.2.1 x.2.2.1 x.2.2.2.1) [O5,F7] [] (by kernel_rfl) λx=>by simp only[Lz,tm];kernel_rfl
def Jd(a0:qN)(a1:Int):Option (Bool×Unit):=
 (HF a0 a1).bind λy1=>br y1.1 (iteP (0<=a1) ((a0.servers[a1.toNat]?).bind λx2=>(Lz a0.lease x2.config.epoch a1 a0.now).bind λy3=>some (y3.1,())) none) (some (false,()))
def SC[dL] :=FB 289 Tryz.f289 M8 [.b] (λx=>Jd x.1 x.2.1) [NC,WB] [] (by kernel_rfl) λx=>by simp only[Jd,tm];kernel_rfl
def FM(a0:qQ):Option ((List sf)×Unit):=
 (Fo a0.commit a0.first (IntKind.wrap .i64 (a0.first+(a0.log.length:Int)))).bind λy1=>br (!y1.1) (some (([]:List sf),())) (br (decide (a0.first<0)) (some (([]:List sf),())) (iteP (0<=(0:Int)/\(0:Int)<=(IntKind.wrap .i64 (a0.commit-a0.first))/\(IntKind.wrap .i64 (a0.commit-a0.first))<=(a0.log.length:Int)) ((GM ((a0.log.drop (0:Int).toNat).take ((IntKind.wrap .i64 (a0.commit-a0.first)).toNat-(0:Int).toNat))).bind λy2=>some (y2.1,())) none))
def K6[dL] :=FB 31 Tryz.f31 We VO (λx=>FM x.1) [F7,KS] [] (by kernel_rfl) λx=>by simp only[FM,tm];kernel_rfl
def LF(a0:nX)(a1:Int):Option (Int×Bool×Unit):=
 (Ig a0).bind λy1=>br (!y1.1) (some (0,false,())) ((Fo a1 0 2).bind λy2=>br (!y2.1) (some (0,false,())) (iteP (0<=a1) ((a0.objects[a1.toNat]?).bind λx3=>some (x3,true,())) none))
def WH[dL] :=FB 306 Tryz.f306 acz [.i .i64,.b] (λx=>LF x.1 x.2.1) [O6,F7] [] (by kernel_rfl) λx=>by simp only[LF,tm];kernel_rfl
def NX(a0:qQ)(a1:Int):Option (xB×Unit):=
 (FM a0).bind λy1=>(Ka y1.1).bind λy2=>(LF y2.1 a1).bind λy3=>some ((⟨0,(⟨true,y3.1⟩:Result),a0.commit⟩:xB),())
def Yp[dL] :=FB 290 Tryz.f290 VN [.st .reply] (λx=>NX x.1 x.2.1) [K6,Qq,WH] [] (by kernel_rfl) λx=>by simp only[NX,tm];kernel_rfl
def MS(a0:qN)(a1:Int)(a2:Int):Option (xB×Unit):=
 (Lm a0 a1).bind λy1=>br (!(y1.1==0)) (some ((⟨y1.1,(⟨false,0⟩:Result),0⟩:xB),())) ((Fo a2 0 2).bind λy2=>br (!y2.1) (some ((⟨1,(⟨false,0⟩:Result),0⟩:xB),())) (iteP (0<=a1) ((a0.servers[a1.toNat]?).bind λx3=>(FT x3 a1).bind λy4=>br (!y4.1) (some ((⟨3,(⟨false,0⟩:Result),0⟩:xB),())) ((Jd a0 a1).bind λy5=>br (!y5.1) (some ((⟨7,(⟨false,0⟩:Result),0⟩:xB),())) (iteP (0<=a1) ((a0.servers[a1.toNat]?).bind λx6=>(NX x6 a2).bind λy7=>some (y7.1,())) none))) none))
def Xq[dL] :=FB 272 Tryz.f272 TP [.st .reply] (λx=>MS x.1 x.2.1 x.2.2.1) [Th,F7,Kg,SC,Yp] [] (by kernel_rfl) λx=>by simp only[MS,tm];kernel_rfl
def Mh(a0:vz):Option (Int×Unit):=
 (HL a0).bind λy1=>br (!y1.1) (some (0,())) (br (a0.ends==0) (some (0,())) (some ((IntKind.wrap .i64 (a0.ends+3)),())))
def UD[dL] :=FB 58 Tryz.f58 Y1 Kk (λx=>Mh x.1) [O5] [] (by kernel_rfl) λx=>by simp only[Mh,tm];kernel_rfl
def IW(a0:vz)(a1:Int):Option (Bool×Unit):=
 (HL a0).bind λy1=>br y1.1 ((Fo a1 0 999).bind λy2=>br y2.1 ((Mh a0).bind λy3=>some ((decide (a1≥y3.1)),())) (some (false,()))) (some (false,()))
def Rb[dL] :=FB 116 Tryz.f116 acB [.b] (λx=>IW x.1 x.2.1) [O5,F7,UD] [] (by kernel_rfl) λx=>by simp only[IW,tm];kernel_rfl
def Ly(a0:vz)(a1:Int)(a2:Int)(a3:Int)(a4:Int):Option (vz×Bool×Unit):=
 br (a0.epoch==a1) ((HL a0).bind λy1=>br (!y1.1) (some (a0,false,())) ((Fo a1 1 20).bind λy2=>br (!y2.1) (some (a0,false,())) ((Fo a2 0 4).bind λy3=>br (!y3.1) (some (a0,false,())) ((Fo a3 0 999).bind λy4=>br (!y4.1) (some (a0,false,())) ((Fo a4 1 50).bind λy5=>br (!y5.1) (some (a0,false,())) ((IW a0 a3).bind λy6=>br (!y6.1) (br (!(a0.holder==a2)) (some (a0,false,())) (br (a0.holder==a2) (some ((⟨a1,a2,(if a0.ends>(IntKind.wrap .i64 (a3+a4)) then a0.ends else (IntKind.wrap .i64 (a3+a4)))⟩:vz),true,())) (some ((⟨a1,a2,(IntKind.wrap .i64 (a3+a4))⟩:vz),true,())))) (br (a0.holder==a2) (some ((⟨a1,a2,(if a0.ends>(IntKind.wrap .i64 (a3+a4)) then a0.ends else (IntKind.wrap .i64 (a3+a4)))⟩:vz),true,())) (some ((⟨a1,a2,(IntKind.wrap .i64 (a3+a4))⟩:vz),true,()))))))))) ((HL a0).bind λy10=>br (!y10.1) (some (a0,false,())) ((Fo a1 1 20).bind λy11=>br (!y11.1) (some (a0,false,())) ((Fo a2 0 4).bind λy12=>br (!y12.1) (some (a0,false,())) ((Fo a3 0 999).bind λy13=>br (!y13.1) (some (a0,false,())) ((Fo a4 1 50).bind λy14=>br (!y14.1) (some (a0,false,())) ((IW a0 a3).bind λy15=>br (!y15.1) (br (!false) (some (a0,false,())) (some ((⟨a1,a2,(IntKind.wrap .i64 (a3+a4))⟩:vz),true,()))) (some ((⟨a1,a2,(IntKind.wrap .i64 (a3+a4))⟩:vz),true,()))))))))
def WA[dL] :=FB 175 Tryz.f175 [.ty (.st .lease),.ty (.i .i64),.ty (.i .i64),.ty (.i .i64),.ty (.i .i64)] [.st .lease,.b] (λx=>Ly x.1 x.2.1 x.2.2.1 x.2.2.2.1 x.2.2.2.2.1) [O5,F7,Rb] [] (by kernel_rfl) λx=>by simp only[Ly,tm];kernel_rfl
def Kx(a0:qN)(a1:Int)(a2:Int):Option (qN×Int×Unit):=
 (FS a0).bind λy1=>(Lm a0 a1).bind λy2=>br (!(y2.1==0)) (some (y1.1,y2.1,())) (iteP (0<=a1) ((a0.servers[a1.toNat]?).bind λx3=>(FT x3 a1).bind λy4=>br (!y4.1) (some (y1.1,3,())) (br (decide ((IntKind.wrap .i64 (a0.masterUp*2))<=3)) (some (y1.1,8,())) (iteP (0<=a1) ((a0.sides[a1.toNat]?).bind λx5=>br (!(x5==0)) (some (y1.1,8,())) (br (!(x3.config.epoch==(a0.master.configs.length:Int))) (some (y1.1,11,())) ((Ly a0.lease x3.config.epoch a1 a0.now a2).bind λy6=>br (!y6.2.1) (some (y1.1,7,())) (some ((⟨y1.1.now,y1.1.servers,y1.1.sides,y1.1.master,y1.1.masterUp,y6.1,y1.1.places⟩:qN),0,()))))) none))) none)
def R5[dL] :=FB 60 Tryz.f60 TP P8 (λx=>Kx x.1 x.2.1 x.2.2.1) [Gn,Th,Kg,WA] [] (by kernel_rfl) λx=>by simp only[Kx,tm];kernel_rfl
abbrev Rs:LX:=⟨⟨[LV,Wf,Oq],[KC],JA,0,28⟩,[(.ext 0,⟨[Wf],[],JA,0,28⟩)],[],[1,3,4],[3]⟩
def JP(s:ZO×(NF×Unit)×List Int×Unit):Rs.R:=
 br (decide (s.1.2.2.1< (s.2.1.1.2.1.length:Int))) ((Ff (⟨s.2.1.1.1,s.2.1.1.2.1,s.2.1.1.2.2.1,(⟨s.2.1.1.2.2.2.1,s.2.1.1.2.2.2.2.1⟩:kB),s.2.1.1.2.2.2.2.2.1,(⟨s.2.1.1.2.2.2.2.2.2.1,s.2.1.1.2.2.2.2.2.2.2.1,s.2.1.1.2.2.2.2.2.2.2.2.1⟩:vz),s.2.1.1.2.2.2.2.2.2.2.2.2.1⟩:qN)).bind λy13=>br y13.1 (iteP (0<=s.1.2.2.1) ((s.2.1.1.2.1[s.1.2.2.1.toNat]?).bind λx14=>br x14.up (iteP ((s.2.2.1++([s.1.2.2.1]:List Int)).length*8<=2 ^ 40) (some (.inl (((),(),(IntKind.wrap .i64 (s.1.2.2.1+1)),()),s.2.1,(s.2.2.1++([s.1.2.2.1]:List Int)),()))) none) (some (.inl (((),(),(IntKind.wrap .i64 (s.1.2.2.1+1)),()),s.2)))) none) (some (.inr (((),()),(()),s.2.2)))) (some (.inr (((),()),(()),s.2.2)))
def Rd:=md JP
def V6[dL] :=Ik Tryz.f189 [0] Rs JP [Fq] [] (by kernel_rfl) λs=>by simp only[JP,tm];kernel_rfl
def MW(a0:qN):Option ((List Int)×Unit):=
 (Rd (((),(),0,()),((a0.now,a0.servers,a0.sides,a0.master.configs,a0.master.activated,a0.masterUp,a0.lease.epoch,a0.lease.holder,a0.lease.ends,a0.places,()),()),([]:List Int),())).bind λe16=>some e16.2.2
def Xv[dL] :=FB 189 Tryz.f189 SN L5 (λx=>MW x.1) [] [V6] (by kernel_rfl) λx=>by simp only[MW,tm];kernel_rfl
abbrev QN:LX:=⟨⟨[Pk,Wf,Oq],[],JA,0,26⟩,[(.ext 0,⟨[Wf],[],JA,0,26⟩)],[],[0,3,4],[3]⟩
def I7(s:acX×Unit×List Int×Unit):QN.R:=
 br (decide (s.1.2.2.1< (s.1.1.length:Int))) ((HS s.1.1).bind λy4=>br y4.1 (iteP (0<=s.1.2.2.1) ((s.1.1[s.1.2.2.1.toNat]?).bind λx5=>br (x5==0) (iteP ((s.2.2.1++([s.1.2.2.1]:List Int)).length*8<=2 ^ 40) (some (.inl ((s.1.1,(),(IntKind.wrap .i64 (s.1.2.2.1+1)),()),(()),(s.2.2.1++([s.1.2.2.1]:List Int)),()))) none) (some (.inl ((s.1.1,(),(IntKind.wrap .i64 (s.1.2.2.1+1)),()),(()),s.2.2)))) none) (some (.inr (((),()),(()),s.2.2)))) (some (.inr (((),()),(()),s.2.2)))
def Qy:=md I7
def Va[dL] :=Ik Tryz.f190 [0] QN I7 [PN] [] (by kernel_rfl) λs=>by simp only[I7,tm];kernel_rfl
def LA(a0:List Int):Option ((List Int)×Unit):=
 (Qy ((a0,(),0,()),(()),([]:List Int),())).bind λe7=>some e7.2.2
def WD[dL] :=FB 190 Tryz.f190 Yz L5 (λx=>LA x.1) [] [Va] (by kernel_rfl) λx=>by simp only[LA,tm];kernel_rfl
def NY(a0:qN):Option ((List Int)×Unit):=
 (MW a0).bind λy1=>(LA a0.sides).bind λy2=>(HT y1.1 y2.1).bind λy3=>some (y3.1,())
def Yq[dL] :=FB 85 Tryz.f85 SN L5 (λx=>NY x.1) [Xv,WD,Nc] [] (by kernel_rfl) λx=>by simp only[NY,tm];kernel_rfl
def Fm(a0:kB):Option (om×Bool×Unit):=
 (G4 a0 a0.activated).bind λy1=>some (y1.1,y1.2.1,())
def Hm[dL] :=FB 29 Tryz.f29 XF YB (λx=>Fm x.1) [Ry] [] (by kernel_rfl) λx=>by simp only[Fm,tm];kernel_rfl
abbrev Ok:LX:=⟨⟨[Pk,Sf,Oa,OA],[],JA,0,28⟩,[(.ext 0,⟨[Oa],[],JA,0,28⟩)],[],[0,1,5,6],[5]⟩
def Hx(s:adr×Unit×List Int×Unit):Ok.R:=
 br (decide (s.1.2.2.2.1< (s.1.1.length:Int))) (iteP (0<=s.1.2.2.2.1) ((s.1.1[s.1.2.2.2.1.toNat]?).bind λx5=>(F1 s.1.2.1 x5).bind λy6=>br (!y6.1) (iteP (0<=s.1.2.2.2.1) ((s.1.1[s.1.2.2.2.1.toNat]?).bind λx7=>(I2 s.2.2.1 x7).bind λy8=>some (.inl ((s.1.1,s.1.2.1,(),(IntKind.wrap .i64 (s.1.2.2.2.1+1)),()),(()),y8.1,()))) none) (some (.inl ((s.1.1,s.1.2.1,(),(IntKind.wrap .i64 (s.1.2.2.2.1+1)),()),(()),s.2.2)))) none) (some (.inr (((),()),(()),s.2.2)))
def N6:=md Hx
def RJ[dL] :=Ik Tryz.f90 [0] Ok Hx [H4,PO] [] (by kernel_rfl) λs=>by simp only[Hx,tm];kernel_rfl
def Gm(a0:List Int)(a1:List Int):Option ((List Int)×Unit):=
 (N6 ((a0,a1,(),0,()),(()),([]:List Int),())).bind λe10=>some e10.2.2
def Mm[dL] :=FB 90 Tryz.f90 WU L5 (λx=>Gm x.1 x.2.1) [] [RJ] (by kernel_rfl) λx=>by simp only[Gm,tm];kernel_rfl
abbrev Ts:LX:=⟨⟨[Tl,Sf,Oa,OA],[],JA,0,33⟩,[(.ext 0,⟨[Oa],[],JA,0,33⟩)],[],[0,1,5,6],[5]⟩
def Ou(s: (List vB×List Int×Unit×Int×Unit)×Unit×List Int×Unit):Ts.R:=
 br (decide (s.1.2.2.2.1< (s.1.2.1.length:Int))) ((F0 s.1.1).bind λy5=>br y5.1 ((GG s.1.2.1).bind λy6=>br y6.1 (iteP (0<=s.1.2.2.2.1) ((s.1.2.1[s.1.2.2.2.1.toNat]?).bind λx7=>iteP (0<=x7) ((s.1.1[x7.toNat]?).bind λx8=>(I2 s.2.2.1 x8.rack).bind λy9=>some (.inl ((s.1.1,s.1.2.1,(),(IntKind.wrap .i64 (s.1.2.2.2.1+1)),()),(()),y9.1,()))) none) none) (some (.inr (((),()),(()),s.2.2)))) (some (.inr (((),()),(()),s.2.2)))) (some (.inr (((),()),(()),s.2.2)))
def XC:=md Ou
def XO[dL] :=Ik Tryz.f193 [0] Ts Ou [M3,NA,PO] [] (by kernel_rfl) λs=>by simp only[Ou,tm];kernel_rfl
def OY(a0:List vB)(a1:List Int):Option ((List Int)×Unit):=
 (XC ((a0,a1,(),0,()),(()),([]:List Int),())).bind λe10=>some e10.2.2
def ZG[dL] :=FB 193 Tryz.f193 [.ty (.ls (.st .place)),.ty (.ls (.i .i64))] L5 (λx=>OY x.1 x.2.1) [] [XO] (by kernel_rfl) λx=>by simp only[OY,tm];kernel_rfl
def OX(a0:List vB)(a1:Int):Option (Bool×Unit):=
 (F0 a0).bind λy1=>br y1.1 ((Fo a1 0 4).bind λy2=>br y2.1 (iteP (0<=a1) ((a0[a1.toNat]?).bind λx3=>iteP (0<=a1) ((a0[a1.toNat]?).bind λx4=>some ((decide (x3.load<x4.capacity)),())) none) none) (some (false,()))) (some (false,()))
def ZF[dL] :=FB 194 Tryz.f194 [.ty (.ls (.st .place)),.ty (.i .i64)] [.b] (λx=>OX x.1 x.2.1) [M3,F7] [] (by kernel_rfl) λx=>by simp only[OX,tm];kernel_rfl
def N0(a0:List vB)(a1:List Int)(a2:Int)(a3:Int):Option (Bool×Unit):=
 iteP (0<=a2) ((a0[a2.toNat]?).bind λx1=>(F1 a1 x1.rack).bind λy2=>iteP (0<=a3) ((a0[a3.toNat]?).bind λx3=>(F1 a1 x3.rack).bind λy4=>br (!(y2.1==y4.1)) (some (y4.1,())) (iteP (0<=a2) ((a0[a2.toNat]?).bind λx5=>iteP (0<=a3) ((a0[a3.toNat]?).bind λx6=>some ((decide (x5.load<x6.load)),())) none) none)) none) none
def Yt[dL] :=FB 195 Tryz.f195 [.ty (.ls (.st .place)),.ty (.ls (.i .i64)),.ty (.i .i64),.ty (.i .i64)] [.b] (λx=>N0 x.1 x.2.1 x.2.2.1 x.2.2.2.1) [H4] [] (by kernel_rfl) λx=>by simp only[N0,tm];kernel_rfl
abbrev OS:LX:=⟨⟨[Tl,Sf,(2,.cl (.ro (.i .i64))),Ot,Y6,(9,.cl (.int .i64))],[],JA,0,46⟩,[(.ext 0,⟨[Ot],[],[],0,46⟩)],[],[0,1,2,7,8,9],[7]⟩
def MB(s: (List vB×List Int×List Int×Int×Unit×Int×Unit)×Unit×List Int×Unit):OS.R:=
 br (decide (s.1.2.2.2.2.2.1<5)) ((GG s.1.2.1).bind λy8=>br y8.1 ((OX s.1.1 s.1.2.2.2.2.2.1).bind λy9=>let j14 (p13:Int):OS.R:=some (.inl ((s.1.1,s.1.2.1,s.1.2.2.1,p13,(),(IntKind.wrap .i64 (s.1.2.2.2.2.2.1+1)),()),(()),s.2.2));br (!y9.1) (j14 s.1.2.2.2.1) ((F1 s.1.2.1 s.1.2.2.2.2.2.1).bind λy10=>br y10.1 (j14 s.1.2.2.2.1) ((F1 s.1.2.2.1 s.1.2.2.2.2.2.1).bind λy11=>br y11.1 (j14 s.1.2.2.2.1) (br (decide (s.1.2.2.2.1<0)) (j14 s.1.2.2.2.2.2.1) ((N0 s.1.1 s.2.2.1 s.1.2.2.2.2.2.1 s.1.2.2.2.1).bind λy12=>br y12.1 (j14 s.1.2.2.2.2.2.1) (j14 s.1.2.2.2.1)))))) (some (.inr ((s.1.2.2.2.1,()),(()),(()))))) (some (.inr ((s.1.2.2.2.1,()),(()),(()))))
def VI:=md MB
def V2[dL] :=Ik Tryz.f89 [0] OS MB [NA,ZF,H4,Yt] [] (by kernel_rfl) λs=>by simp only[MB,tm];kernel_rfl
def Lk(a0:List vB)(a1:List Int)(a2:List Int):Option (Int×Unit):=
 (OY a0 a1).bind λy1=>(VI ((a0,a1,a2,(-1),(),0,()),(()),y1.1,())).bind λe15=>some e15.1
def Tf[dL] :=FB 89 Tryz.f89 [.ty (.ls (.st .place)),.ty (.ls (.i .i64)),.ty (.ls (.i .i64))] Kk (λx=>Lk x.1 x.2.1 x.2.2.1) [ZG] [V2] (by kernel_rfl) λx=>by simp only[Lk,tm];kernel_rfl
abbrev P6:LX:=⟨⟨[Tl,OM,aaO,(10,.cl (.own 1 (.i .i64)))],[],aa6,0,52⟩,[(.ret,⟨[Y6,aaO],[],JA,0,52⟩),(.ext 0,⟨[(8,.cl (.dead)),aaO],[],JA,0,52⟩)],[],[0,3,9,10],[8,9]⟩
def K2(s: (List vB×Int×Unit×Unit×Unit)×Unit×List Int×List Int×Unit):P6.R:=
 br (decide ((s.2.2.1.length:Int)<s.1.2.1)) ((Lk s.1.1 s.2.2.1 s.2.2.2.1).bind λy11=>br (decide (y11.1<0)) (some (.inr (.inl (((),(),()),(()),s.2.2.1,())))) ((I2 s.2.2.1 y11.1).bind λy12=>some (.inl (s.1,(()),y12.1,s.2.2.2)))) (some (.inr (.inr (((),(),()),(()),s.2.2.1,()))))
def TO:=md K2
def TY[dL] :=Ik Tryz.f87 [0] P6 K2 [Tf,PO] [] (by kernel_rfl) λs=>by simp only[K2,tm];kernel_rfl
def KO(a0:List vB)(a1:List Int)(a2:List Int)(a3:Int):Option ((List Int)×Unit):=
 (HT a1 a2).bind λy1=>(Gm ([0,1,2,3,4]:List Int) a2).bind λy2=>(F0 a0).bind λy3=>br (!y3.1) (some (([]:List Int),())) ((GG a1).bind λy4=>br (!y4.1) (some (([]:List Int),())) ((GG a2).bind λy5=>br (!y5.1) (some (([]:List Int),())) ((Fo a3 0 5).bind λy6=>br (!y6.1) (some (([]:List Int),())) ((TO ((a0,a3,(),(),()),(()),y1.1,y2.1,())).bind λe13=>Sum.elim (λe13_0=>some e13_0.2.2) (λe13_1=>some e13_1.2.2) e13))))
def VB[dL] :=FB 87 Tryz.f87 [.ty (.ls (.st .place)),.ty (.ls (.i .i64)),.ty (.ls (.i .i64)),.ty (.i .i64)] L5 (λx=>KO x.1 x.2.1 x.2.2.1 x.2.2.2.1) [Nc,Mm,M3,NA,F7] [TY] (by kernel_rfl) λx=>by simp only[KO,tm];kernel_rfl
abbrev Oh:LX:=⟨⟨[LW,Re,Tn,QC,Y6,(9,.cl (.ptr 2 0)),acP,Qz],[KC,ac6,aa2],ac9,0,132⟩,[(.ext 0,⟨[LW,Re,Tn,QC,Y6,(9,.cl (.ptr 2 0)),acP],[KC,ac6,aa2],ac9,0,132⟩)],[],[1,2,3,6,8,9,11,12],[1,2,3,6,8,9,11]⟩
def Lq(s: (Int×Int×Unit×Unit×Unit×Unit×Unit×Int×Unit)×(NF×Sg×Sg×Unit)×List Int×List Int×List Int×List Int×Unit):Oh.R:=
 br (decide (s.1.2.2.2.2.2.2.2.1< (s.2.2.2.2.1.length:Int))) (iteP (0<=s.1.2.2.2.2.2.2.2.1/\s.1.2.2.2.2.2.2.2.1< (s.2.2.2.2.1.length:Int)) ((s.2.2.2.2.1[s.1.2.2.2.2.2.2.2.1.toNat]?).bind λx27=>(F1 s.2.2.1 x27).bind λy28=>let j33 (p32:List Int):Oh.R:=some (.inl ((s.1.1,s.1.2.1,(),(),(),(),(),(IntKind.wrap .i64 (s.1.2.2.2.2.2.2.2.1+1)),()),s.2.1,s.2.2.1,p32,s.2.2.2.2));br y28.1 (iteP (0<=s.1.2.2.2.2.2.2.2.1/\s.1.2.2.2.2.2.2.2.1< (s.2.2.2.2.1.length:Int)) ((s.2.2.2.2.1[s.1.2.2.2.2.2.2.2.1.toNat]?).bind λx29=>iteP (0<=x29) ((s.2.1.1.2.1[x29.toNat]?).bind λx30=>br (x30.config.epoch==s.2.1.2.2.1.1) (iteP (0<=s.1.2.2.2.2.2.2.2.1/\s.1.2.2.2.2.2.2.2.1< (s.2.2.2.2.1.length:Int)) ((s.2.2.2.2.1[s.1.2.2.2.2.2.2.2.1.toNat]?).bind λx31=>iteP ((s.2.2.2.1++([x31]:List Int)).length*8<=2 ^ 40) (j33 (s.2.2.2.1++([x31]:List Int))) none) none) (j33 s.2.2.2.1)) none) none) (j33 s.2.2.2.1)) none) (some (.inr ((s.1.1,s.1.2.1,(),(),(),(),(),()),s.2)))
def UQ:=md Lq
def Vc[dL] :=Ik Tryz.f18 [0] Oh Lq [H4] [] (by kernel_rfl) λs=>by simp only[Lq,tm];kernel_rfl
def Kv(a0:qN)(a1:Int)(a2:Int):Option (om×Bool×Unit):=
 (Ff a0).bind λy1=>br (!y1.1) (some ((⟨0,0,([]:List Int),([]:List Int)⟩:om),false,())) ((Fo a1 1 3).bind λy2=>br (!y2.1) (some ((⟨0,0,([]:List Int),([]:List Int)⟩:om),false,())) ((Fo a2 0 1).bind λy3=>br (!y3.1) (some ((⟨0,0,([]:List Int),([]:List Int)⟩:om),false,())) (br ((a0.master.configs.length:Int)==20) (some ((⟨0,0,([]:List Int),([]:List Int)⟩:om),false,())) ((NY a0).bind λy4=>(Fm a0.master).bind λy5=>(UQ ((a1,a2,(),(),(),(),(),0,()),((a0.now,a0.servers,a0.sides,a0.master.configs,a0.master.activated,a0.masterUp,a0.lease.epoch,a0.lease.holder,a0.lease.ends,a0.places,()),(0,0,(),(),()),(y5.1.epoch,y5.1.primary,(),(),()),()),y4.1,([]:List Int),y5.1.replicas,y5.1.witnesses,())).bind λe34=>(KO e34.2.1.1.2.2.2.2.2.2.2.2.2.1 e34.2.2.2.1 e34.2.2.1 e34.1.1).bind λy35=>br ((y35.1.length:Int)==0) (some ((⟨0,0,([]:List Int),([]:List Int)⟩:om),false,())) (iteP (0<=(0:Int)/\(0:Int)< (y35.1.length:Int)) ((y35.1[(0:Int).toNat]?).bind λx36=>(F1 y35.1 e34.2.1.2.2.1.2.1).bind λy37=>let j43 (p39:Int):Option (om×Bool×Unit):=br (e34.1.2.1==1) ((Gm ([0,1,2,3,4]:List Int) e34.2.2.1).bind λy40=>(Lk e34.2.1.1.2.2.2.2.2.2.2.2.2.1 y35.1 y40.1).bind λy41=>br (decide (y41.1≥0)) (some ((⟨(IntKind.wrap .i64 ((e34.2.1.1.2.2.2.1.length:Int)+1)),p39,y35.1,([y41.1]:List Int)⟩:om),true,())) (some ((⟨(IntKind.wrap .i64 ((e34.2.1.1.2.2.2.1.length:Int)+1)),p39,y35.1,([]:List Int)⟩:om),true,()))) (some ((⟨(IntKind.wrap .i64 ((e34.2.1.1.2.2.2.1.length:Int)+1)),p39,y35.1,([]:List Int)⟩:om),true,()));br y37.1 ((JS (⟨e34.2.1.2.2.1.1,e34.2.1.2.2.1.2.1,e34.2.2.2.2.1,e34.2.2.2.2.2.1⟩:om)).bind λy38=>br (!y38.1) (j43 e34.2.1.2.2.1.2.1) (j43 x36)) (j43 x36)) none)))))
def R4[dL] :=FB 18 Tryz.f18 TP YB (λx=>Kv x.1 x.2.1 x.2.2.1) [Fq,F7,Yq,Hm,H4,VB,Q0,Mm,Tf] [Vc] (by kernel_rfl) λx=>by simp only[Kv,tm];kernel_rfl
def Hl(a0:kB)(a1:om):Option (kB×Bool×Unit):=
 (Mi a0).bind λy1=>(Fv a0).bind λy2=>br (!y2.1) (some (y1.1,false,())) ((Fk a1).bind λy3=>br (!y3.1) (some (y1.1,false,())) (br (!(a1.epoch==(IntKind.wrap .i64 ((a0.configs.length:Int)+1)))) (some (y1.1,false,())) ((Ii a1).bind λy4=>iteP ((y1.1.configs++([y4.1]:List om)).length*64<=2 ^ 40) (some ((⟨(y1.1.configs++([y4.1]:List om)),y1.1.activated⟩:kB),true,())) none)))
def PY[dL] :=FB 124 Tryz.f124 acC Zb (λx=>Hl x.1 x.2.1) [SE,MM,JK,Qr] [] (by kernel_rfl) λx=>by simp only[Hl,tm];kernel_rfl
def GX(a0:qN)(a1:om):Option (qN×Int×Unit):=
 (FS a0).bind λy1=>(Ff a0).bind λy2=>br (!y2.1) (some (y1.1,1,())) (br (decide ((IntKind.wrap .i64 (a0.masterUp*2))<=3)) (some (y1.1,8,())) ((Hl a0.master a1).bind λy3=>br (!y3.2.1) (some (y1.1,1,())) (some ((⟨y1.1.now,y1.1.servers,y1.1.sides,y3.1,y1.1.masterUp,y1.1.lease,y1.1.places⟩:qN),0,()))))
def KR[dL] :=FB 37 Tryz.f37 Y3 P8 (λx=>GX x.1 x.2.1) [Gn,Fq,PY] [] (by kernel_rfl) λx=>by simp only[GX,tm];kernel_rfl
def HD(a0:kB):Option (om×Bool×Unit):=
 (G4 a0 (a0.configs.length:Int)).bind λy1=>some (y1.1,y1.2.1,())
def WC[dL] :=FB 115 Tryz.f115 XF YB (λx=>HD x.1) [Ry] [] (by kernel_rfl) λx=>by simp only[HD,tm];kernel_rfl
def HE(a0:qQ)(a1:Int):Option (qQ×Bool×Unit):=
 (Iy a0).bind λy1=>(Fo a1 1 20).bind λy2=>br (!y2.1) (some (y1.1,false,())) (br (decide (a1<=a0.epoch)) (some (y1.1,false,())) (br (decide (a0.epoch<0)) (some (y1.1,false,())) (some ((⟨y1.1.up,y1.1.intact,y1.1.version,a1,y1.1.config,y1.1.first,y1.1.log,y1.1.commit,y1.1.learned⟩:qQ),true,()))))
def R6[dL] :=FB 210 Tryz.f210 VN Zc (λx=>HE x.1 x.2.1) [SF,F7] [] (by kernel_rfl) λx=>by simp only[HE,tm];kernel_rfl
abbrev Nk:LX:=⟨⟨[LW,Re,Tn,QC,(7,.cl (.ptr 2 0)),acQ,UT],[KC,Na,XJ],aa8,0,85⟩,[(.ext 0,⟨[(6,.cl (.ptr 0 0)),(7,.cl (.ptr 1 0))],[Na,VP],XK,0,85⟩)],[],[1,2,3,6,7,10,11],[6,7]⟩
def GB(s: (Int×Int×Unit×Unit×Unit×Unit×Int×Unit)×(NF×Nh×Nh×Unit)×List Int×List qQ×List Int×List om×List vB×Unit):Nk.R:=
 br (decide (s.1.2.2.2.2.2.2.1< (s.2.2.1.length:Int))) (iteP (0<=s.1.2.2.2.2.2.2.1/\s.1.2.2.2.2.2.2.1< (s.2.2.1.length:Int)) ((s.2.2.1[s.1.2.2.2.2.2.2.1.toNat]?).bind λx36=>iteP (0<=x36) ((s.2.1.1.2.1[x36.toNat]?).bind λx37=>let j47 (p46:List qQ):Nk.R:=some (.inl ((s.1.1,s.1.2.1,(),(),(),(),(IntKind.wrap .i64 (s.1.2.2.2.2.2.2.1+1)),()),s.2.1,s.2.2.1,p46,s.2.2.2.2));br x37.up (iteP (0<=s.1.2.2.2.2.2.2.1/\s.1.2.2.2.2.2.2.1< (s.2.2.1.length:Int)) ((s.2.2.1[s.1.2.2.2.2.2.2.1.toNat]?).bind λx38=>(GN s.2.1.1.2.2.1 s.1.1 x38).bind λy39=>br y39.1 (iteP (0<=s.1.2.2.2.2.2.2.1/\s.1.2.2.2.2.2.2.1< (s.2.2.1.length:Int)) ((s.2.2.1[s.1.2.2.2.2.2.2.1.toNat]?).bind λx40=>iteP (0<=s.1.2.2.2.2.2.2.1/\s.1.2.2.2.2.2.2.1< (s.2.2.1.length:Int)) ((s.2.2.1[s.1.2.2.2.2.2.2.1.toNat]?).bind λx41=>iteP (0<=x41) ((s.2.1.1.2.1[x41.toNat]?).bind λx42=>(HE x42 s.1.2.1).bind λy43=>iteP (0<=x40/\x40< (s.2.2.2.1.length:Int)) ((s.2.2.2.1[x40.toNat]?).bind λ_=>j47 (s.2.2.2.1.set x40.toNat y43.1)) none) none) none) none) (j47 s.2.2.2.1)) none) (j47 s.2.2.2.1)) none) none) (some (.inr (((),(),()),s.2.1.2,s.2.2.2)))
def Ng:=md GB
def TZ[dL] :=Ik Tryz.f117 [0] Nk GB [Ml,R6] [] (by kernel_rfl) λs=>by simp only[GB,tm];kernel_rfl
def GC(a0:qN)(a1:Int)(a2:Int):Option (qN×Unit):=
 (FS a0).bind λy1=>(Fm a0.master).bind λy2=>(Ff a0).bind λy3=>br (!y3.1) (some (y1.1,())) (br (!y2.2.1) (some (y1.1,())) ((Fo a2 1 (a0.master.configs.length:Int)).bind λy4=>br (!y4.1) (some (y1.1,())) ((FV y2.1).bind λy5=>(Ng ((a1,a2,(),(),(),(),0,()),((a0.now,a0.servers,a0.sides,a0.master.configs,a0.master.activated,a0.masterUp,a0.lease.epoch,a0.lease.holder,a0.lease.ends,a0.places,()),(0,(),(),(),0,0,0,0,0,(),()),(y1.1.now,(),(),(),y1.1.master.activated,y1.1.masterUp,y1.1.lease.epoch,y1.1.lease.holder,y1.1.lease.ends,(),()),()),y5.1,y1.1.servers,y1.1.sides,y1.1.master.configs,y1.1.places,())).bind λe48=>some ((⟨e48.2.1.2.1.1,e48.2.2.1,e48.2.2.2.1,(⟨e48.2.2.2.2.1,e48.2.1.2.1.2.2.2.2.1⟩:kB),e48.2.1.2.1.2.2.2.2.2.1,(⟨e48.2.1.2.1.2.2.2.2.2.2.1,e48.2.1.2.1.2.2.2.2.2.2.2.1,e48.2.1.2.1.2.2.2.2.2.2.2.2.1⟩:vz),e48.2.2.2.2.2.1⟩:qN),()))))
def VE[dL] :=FB 117 Tryz.f117 TP TQ (λx=>GC x.1 x.2.1 x.2.2.1) [Gn,Hm,Fq,F7,Jo] [TZ] (by kernel_rfl) λx=>by simp only[GC,tm];kernel_rfl
abbrev Oj:LX:=⟨⟨[LW,M9,Oa,QC,XI,Pj],[KC,ZR],aa7,0,74⟩,[(.ext 0,⟨[Oa],[],JA,0,74⟩)],[],[1,2,5,6,7,8],[5]⟩
def Hc(s:aaW×(NF×Sg×Unit)×List Int×List Int×List Int×Unit):Oj.R:=
 br (decide (s.1.2.2.2.2.2.1< (s.2.2.2.1.length:Int))) (br s.1.2.2.2.2.1 ((Ff (⟨s.2.1.1.1,s.2.1.1.2.1,s.2.1.1.2.2.1,(⟨s.2.1.1.2.2.2.1,s.2.1.1.2.2.2.2.1⟩:kB),s.2.1.1.2.2.2.2.2.1,(⟨s.2.1.1.2.2.2.2.2.2.1,s.2.1.1.2.2.2.2.2.2.2.1,s.2.1.1.2.2.2.2.2.2.2.2.1⟩:vz),s.2.1.1.2.2.2.2.2.2.2.2.2.1⟩:qN)).bind λy20=>br y20.1 ((Fo s.1.1 0 4).bind λy21=>br y21.1 (iteP (0<=s.1.2.2.2.2.2.1/\s.1.2.2.2.2.2.1< (s.2.2.2.1.length:Int)) ((s.2.2.2.1[s.1.2.2.2.2.2.1.toNat]?).bind λx22=>iteP (0<=x22) ((s.2.1.1.2.1[x22.toNat]?).bind λx23=>let j28 (p27:List Int):Oj.R:=some (.inl ((s.1.1,(),(),(),s.1.2.2.2.2.1,(IntKind.wrap .i64 (s.1.2.2.2.2.2.1+1)),()),s.2.1,p27,s.2.2.2));br x23.up (br (x23.config.epoch==s.2.1.2.1.1) (iteP (0<=s.1.2.2.2.2.2.1/\s.1.2.2.2.2.2.1< (s.2.2.2.1.length:Int)) ((s.2.2.2.1[s.1.2.2.2.2.2.1.toNat]?).bind λx24=>(GN s.2.1.1.2.2.1 s.1.1 x24).bind λy25=>br y25.1 (iteP (0<=s.1.2.2.2.2.2.1/\s.1.2.2.2.2.2.1< (s.2.2.2.1.length:Int)) ((s.2.2.2.1[s.1.2.2.2.2.2.1.toNat]?).bind λx26=>iteP ((s.2.2.1++([x26]:List Int)).length*8<=2 ^ 40) (j28 (s.2.2.1++([x26]:List Int))) none) none) (j28 s.2.2.1)) none) (j28 s.2.2.1)) (j28 s.2.2.1)) none) none) (some (.inr (((),()),(()),s.2.2.1,())))) (some (.inr (((),()),(()),s.2.2.1,())))) (some (.inr (((),()),(()),s.2.2.1,())))) (some (.inr (((),()),(()),s.2.2.1,())))
def LS:=md Hc
def Vd[dL] :=Ik Tryz.f248 [0] Oj Hc [Fq,F7,Ml] [] (by kernel_rfl) λs=>by simp only[Hc,tm];kernel_rfl
def G3(a0:qN)(a1:Int):Option ((List Int)×Unit):=
 (Fm a0.master).bind λy1=>(LS ((a1,(),(),(),y1.2.1,0,()),((a0.now,a0.servers,a0.sides,a0.master.configs,a0.master.activated,a0.masterUp,a0.lease.epoch,a0.lease.holder,a0.lease.ends,a0.places,()),(y1.1.epoch,y1.1.primary,(),(),()),()),([]:List Int),y1.1.replicas,y1.1.witnesses,())).bind λe29=>some e29.2.2
def WJ[dL] :=FB 248 Tryz.f248 M8 L5 (λx=>G3 x.1 x.2.1) [Hm] [Vd] (by kernel_rfl) λx=>by simp only[G3,tm];kernel_rfl
abbrev QJ:LX:=⟨⟨[M9,Ob,Y5,Ot],[KC],JA,0,44⟩,[(.ext 0,⟨[Ob],[],[],0,44⟩)],[],[2,5,6,7],[5]⟩
def Hb(s:acY×(NF×Unit)×List Int×Unit):QJ.R:=
 br (decide (s.1.2.2.2.1< (s.2.2.1.length:Int))) (br (decide (s.1.2.1<0)) (iteP (0<=s.1.2.2.2.1/\s.1.2.2.2.1< (s.2.2.1.length:Int)) ((s.2.2.1[s.1.2.2.2.1.toNat]?).bind λx15=>some (.inl (((),x15,(),(IntKind.wrap .i64 (s.1.2.2.2.1+1)),()),s.2))) none) (iteP (0<=s.1.2.2.2.1/\s.1.2.2.2.1< (s.2.2.1.length:Int)) ((s.2.2.1[s.1.2.2.2.1.toNat]?).bind λx16=>iteP (0<=x16) ((s.2.1.1.2.1[x16.toNat]?).bind λx17=>iteP (0<=s.1.2.1) ((s.2.1.1.2.1[s.1.2.1.toNat]?).bind λx18=>br (decide ((x17.log.length:Int)>(x18.log.length:Int))) (iteP (0<=s.1.2.2.2.1/\s.1.2.2.2.1< (s.2.2.1.length:Int)) ((s.2.2.1[s.1.2.2.2.1.toNat]?).bind λx19=>some (.inl (((),x19,(),(IntKind.wrap .i64 (s.1.2.2.2.1+1)),()),s.2))) none) (some (.inl (((),s.1.2.1,(),(IntKind.wrap .i64 (s.1.2.2.2.1+1)),()),s.2)))) none) none) none)) (some (.inr ((s.1.2.1,()),(()),(()))))
def N4:=md Hb
def U8[dL] :=Ik Tryz.f211 [0] QJ Hb [] [] (by kernel_rfl) λs=>by simp only[Hb,tm];kernel_rfl
def G2(a0:qN)(a1:Int):Option (Int×Unit):=
 (G3 a0 a1).bind λy1=>(N4 (((),(-1),(),0,()),((a0.now,a0.servers,a0.sides,a0.master.configs,a0.master.activated,a0.masterUp,a0.lease.epoch,a0.lease.holder,a0.lease.ends,a0.places,()),()),y1.1,())).bind λe21=>some e21.1
def Wy[dL] :=FB 211 Tryz.f211 M8 Kk (λx=>G2 x.1 x.2.1) [WJ] [U8] (by kernel_rfl) λx=>by simp only[G2,tm];kernel_rfl
def Ky(a0:qQ)(a1:Int):Option ((List sf)×Unit):=
 (F8 a0.config a1).bind λy1=>(GM a0.learned).bind λy2=>br (y1.1==1) ((FM a0).bind λy3=>br (decide ((y3.1.length:Int)>(y2.1.length:Int))) (some (y3.1,())) (some (y2.1,()))) (br (y1.1==2) ((FM a0).bind λy4=>br (decide ((y4.1.length:Int)>(y2.1.length:Int))) (some (y4.1,())) (some (y2.1,()))) (some (y2.1,())))
def ZI[dL] :=FB 250 Tryz.f250 VN VO (λx=>Ky x.1 x.2.1) [N1,KS,K6] [] (by kernel_rfl) λx=>by simp only[Ky,tm];kernel_rfl
def NK(a0:Int)(a1:List sf):Option (Bool×Unit):=
 (F9 a1).bind λy1=>br y1.1 (br (decide ((a1.length:Int)<=3)) ((Fo a0 0 (IntKind.wrap .i64 (16-(a1.length:Int)))).bind λy2=>br y2.1 (br (a0==0) (some (true,())) (some (((a1.length:Int)==3),()))) (some (false,()))) (some (false,()))) (some (false,()))
def ZH[dL] :=FB 268 Tryz.f268 acD [.b] (λx=>NK x.1 x.2.1) [NB,F7] [] (by kernel_rfl) λx=>by simp only[NK,tm];kernel_rfl
abbrev Pp:LX:=⟨⟨[QB,aaP,Ob],[],[],0,30⟩,[(.ext 0,⟨[Ob],[],[],0,30⟩)],[],[0,1,5],[5]⟩
def Hw(s:acZ×Unit×Unit):Pp.R:=
 br (decide (s.1.2.2.1< (s.1.1.length:Int))) (br (decide (s.1.2.2.1< (s.1.2.1.length:Int))) (iteP (0<=s.1.2.2.1) ((s.1.1[s.1.2.2.1.toNat]?).bind λx4=>iteP (0<=s.1.2.2.1) ((s.1.2.1[s.1.2.2.1.toNat]?).bind λx5=>br ((x4.epoch==x5.epoch)&&((x4.op.client==x5.op.client)&&((x4.op.seq==x5.op.seq)&&((x4.op.kind==x5.op.kind)&&((x4.op.object==x5.op.object)&&((x4.op.old==x5.op.old)&&((x4.op.value==x5.op.value)&&true))))))) (some (.inl ((s.1.1,s.1.2.1,(IntKind.wrap .i64 (s.1.2.2.1+1)),()),(()),(())))) (some (.inr (s.1.2.2,(()),(()))))) none) none) (some (.inr (s.1.2.2,(()),(()))))) (some (.inr (s.1.2.2,(()),(()))))
def Mr:=md Hw
def SR[dL] :=Ik Tryz.f127 [0] Pp Hw [] [] (by kernel_rfl) λs=>by simp only[Hw,tm];kernel_rfl
def Gy(a0:List sf)(a1:List sf):Option (Int×Unit):=
 (Mr ((a0,a1,0,()),(()),(()))).bind λe6=>some e6.1
def Qo[dL] :=FB 127 Tryz.f127 Y4 Kk (λx=>Gy x.1 x.2.1) [] [SR] (by kernel_rfl) λx=>by simp only[Gy,tm];kernel_rfl
def Jx(a0:List sf)(a1:Int)(a2:List sf):Option ((List sf)×Bool×Unit):=
 (F9 a0).bind λy1=>br (!y1.1) (some (([]:List sf),false,())) ((NK a1 a2).bind λy2=>br (!y2.1) (some (([]:List sf),false,())) (br (decide (a1>(a0.length:Int))) (some (([]:List sf),false,())) (iteP (0<=a1/\a1<=(a0.length:Int)/\(a0.length:Int)<=(a0.length:Int)) ((Gy ((a0.drop a1.toNat).take ((a0.length:Int).toNat-a1.toNat)) a2).bind λy3=>br (decide (y3.1< (if (a2.length:Int)< (IntKind.wrap .i64 ((a0.length:Int)-a1)) then (a2.length:Int) else (IntKind.wrap .i64 ((a0.length:Int)-a1))))) (some (([]:List sf),false,())) ((GM a0).bind λy4=>iteP (0<=y3.1/\y3.1<=(a2.length:Int)/\(a2.length:Int)<=(a2.length:Int)) (iteP ((y4.1++((a2.drop y3.1.toNat).take ((a2.length:Int).toNat-y3.1.toNat))).length*56<=2 ^ 40) ((F9 (y4.1++((a2.drop y3.1.toNat).take ((a2.length:Int).toNat-y3.1.toNat)))).bind λy5=>br (!y5.1) (some (([]:List sf),false,())) (some ((y4.1++((a2.drop y3.1.toNat).take ((a2.length:Int).toNat-y3.1.toNat))),true,()))) none) none)) none)))
def Yj[dL] :=FB 249 Tryz.f249 acE ZP (λx=>Jx x.1 x.2.1 x.2.2.1) [NB,ZH,Qo,KS] [] (by kernel_rfl) λx=>by simp only[Jx,tm];kernel_rfl
abbrev Nl:LX:=⟨⟨[LW,M9,Wg,XI,aaQ,Rf,UU,(11,.cl (.ptr 2 0)),Qz],[KC,ZR,aa3],ZS,0,121⟩,[(.ext 2,⟨[LW,M9,Wg,XI,aaQ,Rf,UU],[KC,ZR],ZS,0,121⟩)],[],[1,2,6,7,8,9,10,11,12],[1,2,6,7,8,9,10]⟩
def GZ(s: (Int×Unit×Unit×Bool×Unit×Bool×Int×Unit×Int×Unit)×(NF×Sg×aaX×Unit)×List sf×List Int×List Int×Unit):Nl.R:=
 br (decide (s.1.2.2.2.2.2.2.2.2.1<5)) (iteP (0<=s.1.2.2.2.2.2.2.2.2.1) ((s.2.1.1.2.1[s.1.2.2.2.2.2.2.2.2.1.toNat]?).bind λx59=>let j66 (p64:List sf) (p65:Bool):Nl.R:=some (.inl ((s.1.1,(),(),p65,(),s.1.2.2.2.2.2.1,s.1.2.2.2.2.2.2.1,(),(IntKind.wrap .i64 (s.1.2.2.2.2.2.2.2.2.1+1)),()),s.2.1,p64,s.2.2.2));br (!x59.up) (j66 s.2.2.1 s.1.2.2.2.1) ((GN s.2.1.1.2.2.1 s.1.1 s.1.2.2.2.2.2.2.2.2.1).bind λy60=>br (!y60.1) (j66 s.2.2.1 s.1.2.2.2.1) (iteP (0<=s.1.2.2.2.2.2.2.2.2.1) ((s.2.1.1.2.1[s.1.2.2.2.2.2.2.2.2.1.toNat]?).bind λx61=>(Ky x61 s.1.2.2.2.2.2.2.2.2.1).bind λy62=>(Jx y62.1 s.2.1.2.2.1.2.2.2.2.2.2.2.2.1 s.2.1.2.2.1.2.2.2.2.2.2.2.2.2.1).bind λy63=>br y63.2.1 (br (!s.1.2.2.2.1) (j66 y63.1 true) (br (decide ((y63.1.length:Int)>(s.2.2.1.length:Int))) (j66 y63.1 true) (j66 s.2.2.1 s.1.2.2.2.1))) (j66 s.2.2.1 s.1.2.2.2.1)) none))) none) (some (.inr ((s.1.1,(),(),s.1.2.2.2.1,(),s.1.2.2.2.2.2.1,s.1.2.2.2.2.2.2.1,()),(s.2.1.1,s.2.1.2.1,()),s.2.2)))
def K7:=md GZ
def T0[dL] :=Ik Tryz.f212 [0,0] Nl GZ [Ml,ZI,Yj] [] (by kernel_rfl) λs=>by simp only[GZ,tm];kernel_rfl
abbrev QP:LX:=⟨⟨[LW,M9,Wg,XI,aaQ,Rf,UU],[KC,ZR],ZS,0,121⟩,[(.ext 0,⟨[Wg,XI],[],ZT,0,121⟩)],[],[1,2,6,7,8,9,10],[6,7]⟩
def Gw(s: (Int×Unit×Unit×Bool×Unit×Bool×Int×Unit)×(NF×Sg×Unit)×List sf×List Int×List Int×Unit):QP.R:=
 br (decide (s.1.2.2.2.2.2.2.1< (s.2.2.2.2.1.length:Int))) (br s.1.2.2.2.2.2.1 ((Ff (⟨s.2.1.1.1,s.2.1.1.2.1,s.2.1.1.2.2.1,(⟨s.2.1.1.2.2.2.1,s.2.1.1.2.2.2.2.1⟩:kB),s.2.1.1.2.2.2.2.2.1,(⟨s.2.1.1.2.2.2.2.2.2.1,s.2.1.1.2.2.2.2.2.2.2.1,s.2.1.1.2.2.2.2.2.2.2.2.1⟩:vz),s.2.1.1.2.2.2.2.2.2.2.2.2.1⟩:qN)).bind λy21=>br y21.1 ((Fo s.1.1 0 4).bind λy22=>br y22.1 (iteP (0<=s.1.2.2.2.2.2.2.1/\s.1.2.2.2.2.2.2.1< (s.2.2.2.2.1.length:Int)) ((s.2.2.2.2.1[s.1.2.2.2.2.2.2.1.toNat]?).bind λx23=>iteP (0<=x23) ((s.2.1.1.2.1[x23.toNat]?).bind λx24=>br (!x24.up) (some (.inl ((s.1.1,(),(),s.1.2.2.2.1,(),s.1.2.2.2.2.2.1,(IntKind.wrap .i64 (s.1.2.2.2.2.2.2.1+1)),()),s.2))) (br (!(x24.config.epoch==s.2.1.2.1.1)) (some (.inl ((s.1.1,(),(),s.1.2.2.2.1,(),s.1.2.2.2.2.2.1,(IntKind.wrap .i64 (s.1.2.2.2.2.2.2.1+1)),()),s.2))) (iteP (0<=s.1.2.2.2.2.2.2.1/\s.1.2.2.2.2.2.2.1< (s.2.2.2.2.1.length:Int)) ((s.2.2.2.2.1[s.1.2.2.2.2.2.2.1.toNat]?).bind λx25=>(GN s.2.1.1.2.2.1 s.1.1 x25).bind λy26=>br (!y26.1) (some (.inl ((s.1.1,(),(),s.1.2.2.2.1,(),s.1.2.2.2.2.2.1,(IntKind.wrap .i64 (s.1.2.2.2.2.2.2.1+1)),()),s.2))) ((K7 ((s.1.1,(),(),s.1.2.2.2.1,(),s.1.2.2.2.2.2.1,s.1.2.2.2.2.2.2.1,(),0,()),(s.2.1.1,s.2.1.2.1,(x24.up,x24.intact,x24.version,x24.epoch,x24.config.epoch,x24.config.primary,x24.config.replicas,x24.config.witnesses,x24.first,x24.log,x24.commit,x24.learned,()),()),s.2.2)).bind λe67=>some (.inl ((e67.1.1,(),(),e67.1.2.2.2.1,(),e67.1.2.2.2.2.2.1,(IntKind.wrap .i64 (e67.1.2.2.2.2.2.2.1+1)),()),e67.2)))) none))) none) none) (some (.inr (((),s.1.2.2.2.1,()),(()),s.2.2.1,())))) (some (.inr (((),s.1.2.2.2.1,()),(()),s.2.2.1,())))) (some (.inr (((),s.1.2.2.2.1,()),(()),s.2.2.1,())))) (some (.inr (((),s.1.2.2.2.1,()),(()),s.2.2.1,())))
def LU:=md Gw
def Ve[dL] :=Ik Tryz.f212 [0] QP Gw [Fq,F7,Ml] [T0] (by kernel_rfl) λs=>by simp only[Gw,tm];kernel_rfl
def GH(a0:qN)(a1:Int):Option ((List sf)×Bool×Unit):=
 (Fm a0.master).bind λy1=>(LU ((a1,(),(),false,(),y1.2.1,0,()),((a0.now,a0.servers,a0.sides,a0.master.configs,a0.master.activated,a0.masterUp,a0.lease.epoch,a0.lease.holder,a0.lease.ends,a0.places,()),(y1.1.epoch,y1.1.primary,(),(),()),()),([]:List sf),y1.1.replicas,y1.1.witnesses,())).bind λe87=>some (e87.2.2.1,e87.1.2)
def WL[dL] :=FB 212 Tryz.f212 M8 ZP (λx=>GH x.1 x.2.1) [Hm] [Ve] (by kernel_rfl) λx=>by simp only[GH,tm];kernel_rfl
def Gp(a0:qN)(a1:Int):Option ((List sf)×Bool×Unit):=
 (Ff a0).bind λy1=>br (!y1.1) (some (([]:List sf),false,())) ((Fo a1 0 4).bind λy2=>br (!y2.1) (some (([]:List sf),false,())) (br (a0.master.activated==0) (some (([]:List sf),true,())) ((G2 a0 a1).bind λy3=>br (decide (y3.1≥0)) (iteP (0<=y3.1) ((a0.servers[y3.1.toNat]?).bind λx4=>(GM x4.log).bind λy5=>some (y5.1,true,())) none) ((GH a0 a1).bind λy6=>some (y6.1,y6.2.1,())))))
def Tg[dL] :=FB 118 Tryz.f118 M8 ZP (λx=>Gp x.1 x.2.1) [Fq,F7,Wy,KS,WL] [] (by kernel_rfl) λx=>by simp only[Gp,tm];kernel_rfl
abbrev Pt:LX:=⟨⟨[QB,OM],[],[],0,16⟩,[(.ret,⟨[Oz],[],[],0,16⟩),(.ext 0,⟨[Nr],[],[],0,16⟩)],[],[0,3],[2]⟩
def Hy(s:acW×Unit×Unit):Pt.R:=
 br (decide (s.1.2.1< (s.1.1.length:Int))) (iteP (0<=s.1.2.1) ((s.1.1[s.1.2.1.toNat]?).bind λx3=>(IV x3.op).bind λy4=>br y4.1 (some (.inr (.inl ((true,()),(()),(()))))) (some (.inl ((s.1.1,(IntKind.wrap .i64 (s.1.2.1+1)),()),(()),(()))))) none) (some (.inr (.inr (((),()),(()),(())))))
def Mt:=md Hy
def SY[dL] :=Ik Tryz.f119 [0] Pt Hy [Ra] [] (by kernel_rfl) λs=>by simp only[Hy,tm];kernel_rfl
def FO(a0:List sf):Option (Bool×Unit):=
 (Mt ((a0,0,()),(()),(()))).bind λe5=>Sum.elim (λe5_0=>some e5_0.1) (λ_=>some (false,())) e5
def N2[dL] :=FB 119 Tryz.f119 Sd [.b] (λx=>FO x.1) [] [SY] (by kernel_rfl) λx=>by simp only[FO,tm];kernel_rfl
def Gj(a0:qQ)(a1:om)(a2:Int)(a3:List sf):Option (qQ×Bool×Unit):=
 (F8 a1 a2).bind λy1=>br (y1.1==0) ((Iy a0).bind λy2=>some (y2.1,false,())) ((F9 a3).bind λy3=>br (!y3.1) ((Iy a0).bind λy4=>some (y4.1,false,())) ((Fo a0.version 1 2).bind λy5=>br (!y5.1) ((Iy a0).bind λy6=>some (y6.1,false,())) ((Fo a0.epoch 0 a1.epoch).bind λy7=>br (!y7.1) ((Iy a0).bind λy8=>some (y8.1,false,())) ((Iz a3).bind λy9=>br (decide (y9.1>a1.epoch)) ((Iy a0).bind λy10=>some (y10.1,false,())) (let j18:Option (qQ×Bool×Unit):=(Ii a1).bind λy13=>(GM a3).bind λy14=>br (y1.1==3) (iteP (0<=(if (IntKind.wrap .i64 ((a3.length:Int)-3))>0 then (IntKind.wrap .i64 ((a3.length:Int)-3)) else 0)/\(if (IntKind.wrap .i64 ((a3.length:Int)-3))>0 then (IntKind.wrap .i64 ((a3.length:Int)-3)) else 0)<=(a3.length:Int)/\(a3.length:Int)<=(a3.length:Int)) ((GM ((a3.drop (if (IntKind.wrap .i64 ((a3.length:Int)-3))>0 then (IntKind.wrap .i64 ((a3.length:Int)-3)) else 0).toNat).take ((a3.length:Int).toNat-(if (IntKind.wrap .i64 ((a3.length:Int)-3))>0 then (IntKind.wrap .i64 ((a3.length:Int)-3)) else 0).toNat))).bind λy15=>some ((⟨a0.up,true,a0.version,a1.epoch,y13.1,(if (IntKind.wrap .i64 ((a3.length:Int)-3))>0 then (IntKind.wrap .i64 ((a3.length:Int)-3)) else 0),y15.1,(a3.length:Int),([]:List sf)⟩:qQ),true,())) none) (some ((⟨a0.up,true,a0.version,a1.epoch,y13.1,0,y14.1,(a3.length:Int),([]:List sf)⟩:qQ),true,()));br (a0.version==1) ((FO a3).bind λy11=>br y11.1 ((Iy a0).bind λy12=>some (y12.1,false,())) (j18)) (j18))))))
def PV[dL] :=FB 120 Tryz.f120 acF Zc (λx=>Gj x.1 x.2.1 x.2.2.1 x.2.2.2.1) [N1,SF,NB,F7,SG,N2,Qr,KS] [] (by kernel_rfl) λx=>by simp only[Gj,tm];kernel_rfl
def Ga(a0:kB)(a1:Int):Option (kB×Bool×Unit):=
 (Mi a0).bind λy1=>(Fv a0).bind λy2=>br (!y2.1) (some (y1.1,false,())) (br (!(a1==(a0.configs.length:Int))) (some (y1.1,false,())) (br (decide (a1<=a0.activated)) (some (y1.1,false,())) (some ((⟨y1.1.configs,a1⟩:kB),true,()))))
def O4[dL] :=FB 121 Tryz.f121 Y2 Zb (λx=>Ga x.1 x.2.1) [SE,MM] [] (by kernel_rfl) λx=>by simp only[Ga,tm];kernel_rfl
abbrev Rj:LX:=⟨⟨[LV,Pg,To,Tp,Tq,UV,UU],[KC,Na,VQ,YE],YF,0,180⟩,[(.ret,⟨[LV,Pg,OM,To,Tp,Tq,UV],[KC,VQ,VQ,YE],YF,0,180⟩),(.ext 1,⟨[LV,Pg,(3,.cl (.dead)),To,Tp,Tq,UV],[KC,Na,VQ,YE],YF,0,180⟩)],[],[1,2,4,5,7,9,10],[1,2,3,4,5,7,9]⟩
def H0(s:aaY×(NF×Nh×Nh×Sg×Unit)×List sf×List Int×List qQ×List Int×List om×List vB×List Int×List Int×Unit):Rj.R:=
 br (decide (s.1.2.2.2.2.2.2.1< (s.2.2.2.1.length:Int))) (iteP (0<=s.1.2.2.2.2.2.2.1/\s.1.2.2.2.2.2.2.1< (s.2.2.2.1.length:Int)) ((s.2.2.2.1[s.1.2.2.2.2.2.2.1.toNat]?).bind λx43=>iteP (0<=x43) ((s.2.1.1.2.1[x43.toNat]?).bind λx44=>br (!x44.up) (some (.inr (.inl (((),(),10,(),(),(),(),()),(s.2.1.1,s.2.1.2.2.1,s.2.1.2.2),s.2.2)))) (iteP (0<=s.1.2.2.2.2.2.2.1/\s.1.2.2.2.2.2.2.1< (s.2.2.2.1.length:Int)) ((s.2.2.2.1[s.1.2.2.2.2.2.2.1.toNat]?).bind λx45=>iteP (0<=x45) ((s.2.1.1.2.2.1[x45.toNat]?).bind λx46=>br (!(x46==0)) (some (.inr (.inl (((),(),10,(),(),(),(),()),(s.2.1.1,s.2.1.2.2.1,s.2.1.2.2),s.2.2)))) (some (.inl (((),(),(),(),(),(),(IntKind.wrap .i64 (s.1.2.2.2.2.2.2.1+1)),()),s.2)))) none) none)) none) none) (some (.inr (.inr (((),(),(),(),(),(),(),()),s.2))))
def OJ:=md H0
def VU[dL] :=Ik Tryz.f34 [0] Rj H0 [] [] (by kernel_rfl) λs=>by simp only[H0,tm];kernel_rfl
abbrev OO:LX:=⟨⟨[LV,Pg,To,Tp,Tq,UV,UT],[KC,Na,VQ,YE],YF,0,180⟩,[(.ret,⟨[LV,Pg,OM,To,Tp,Tq,UV],[KC,VQ,VQ,YE],YF,0,180⟩),(.ext 3,⟨[LV,Pg,(3,.cl (.dead)),To,Tp,Tq,UV],[KC,Na,VQ,YE],YF,0,180⟩)],[],[1,2,4,5,7,9,11],[1,2,3,4,5,7,9]⟩
def GU(s:aaY×(NF×Nh×Nh×Sg×Unit)×List sf×List Int×List qQ×List Int×List om×List vB×List Int×List Int×Unit):OO.R:=
 br (decide (s.1.2.2.2.2.2.2.1< (s.2.2.2.1.length:Int))) (iteP (0<=s.1.2.2.2.2.2.2.1/\s.1.2.2.2.2.2.2.1< (s.2.2.2.1.length:Int)) ((s.2.2.2.1[s.1.2.2.2.2.2.2.1.toNat]?).bind λx81=>iteP (0<=x81) ((s.2.1.1.2.1[x81.toNat]?).bind λx82=>let j84:OO.R:=some (.inl (((),(),(),(),(),(),(IntKind.wrap .i64 (s.1.2.2.2.2.2.2.1+1)),()),s.2));br (x82.version==1) ((FO s.2.2.1).bind λy83=>br y83.1 (some (.inr (.inl (((),(),6,(),(),(),(),()),(s.2.1.1,s.2.1.2.2.1,s.2.1.2.2),s.2.2)))) (j84)) (j84)) none) none) (some (.inr (.inr (((),(),(),(),(),(),(),()),s.2))))
def KX:=md GU
def VV[dL] :=Ik Tryz.f34 [1] OO GU [N2] [] (by kernel_rfl) λs=>by simp only[GU,tm];kernel_rfl
abbrev Rk:LX:=⟨⟨[LV,Pg,To,Tp,Tq,UV,Qz],[KC,Na,VQ,YE],YF,0,180⟩,[(.ext 5,⟨[LV,Pg,To,Tp],[KC,Na,VP,[.int .i64,.int .i64,.own 4 (.i .i64),.own 5 (.i .i64)]],[.st .server,.i .i64,.st .config,.st .place,.i .i64,.i .i64],0,180⟩)],[],[1,2,4,5,7,9,12],[1,2,4,5]⟩
def H1(s:aaY×(NF×Nh×Nh×Sg×Unit)×List sf×List Int×List qQ×List Int×List om×List vB×List Int×List Int×Unit):Rk.R:=
 br (decide (s.1.2.2.2.2.2.2.1< (s.2.2.2.1.length:Int))) (iteP (0<=s.1.2.2.2.2.2.2.1/\s.1.2.2.2.2.2.2.1< (s.2.2.2.1.length:Int)) ((s.2.2.2.1[s.1.2.2.2.2.2.2.1.toNat]?).bind λx119=>iteP (0<=s.1.2.2.2.2.2.2.1/\s.1.2.2.2.2.2.2.1< (s.2.2.2.1.length:Int)) ((s.2.2.2.1[s.1.2.2.2.2.2.2.1.toNat]?).bind λx120=>iteP (0<=x120/\x120< (s.2.2.2.2.1.length:Int)) ((s.2.2.2.2.1[x120.toNat]?).bind λx121=>iteP (0<=s.1.2.2.2.2.2.2.1/\s.1.2.2.2.2.2.2.1< (s.2.2.2.1.length:Int)) ((s.2.2.2.1[s.1.2.2.2.2.2.2.1.toNat]?).bind λx122=>(s.2.2.2.2.1[x120.toNat]?).bind λx123=>iteP (0+x121.config.replicas.length<=x123.config.replicas.length) ((s.2.2.2.2.1[x120.toNat]?).bind λx124=>iteP (0+x121.config.witnesses.length<=x124.config.witnesses.length) ((s.2.2.2.2.1[x120.toNat]?).bind λx125=>iteP (0+x121.log.length<=x125.log.length) ((s.2.2.2.2.1[x120.toNat]?).bind λx126=>iteP (0+x121.learned.length<=x126.learned.length) ((Gj (⟨x121.up,x121.intact,x121.version,x121.epoch,(⟨x121.config.epoch,x121.config.primary,((x123.config.replicas.drop 0).take x121.config.replicas.length),((x124.config.witnesses.drop 0).take x121.config.witnesses.length)⟩:om),x121.first,((x125.log.drop 0).take x121.log.length),x121.commit,((x126.learned.drop 0).take x121.learned.length)⟩:qQ) (⟨s.2.1.2.2.2.1.1,s.2.1.2.2.2.1.2.1,s.2.2.2.2.2.2.2.2.1,s.2.2.2.2.2.2.2.2.2.1⟩:om) x122 s.2.2.1).bind λy127=>iteP (0<=x119/\x119< (s.2.2.2.2.1.length:Int)) ((s.2.2.2.2.1[x119.toNat]?).bind λ_=>some (.inl (((),(),(),(),(),(),(IntKind.wrap .i64 (s.1.2.2.2.2.2.2.1+1)),()),s.2.1,s.2.2.1,s.2.2.2.1,(s.2.2.2.2.1.set x119.toNat y127.1),s.2.2.2.2.2))) none) none) none) none) none) none) none) none) none) (some (.inr (((),(),(),(),()),s.2.1,s.2.2.2.2)))
def MO:=md H1
def VW[dL] :=Ik Tryz.f34 [2] Rk H1 [PV] [] (by kernel_rfl) λs=>by simp only[H1,tm];kernel_rfl
def HQ(a0:qN):Option (qN×Int×Unit):=
 (FS a0).bind λy1=>(HD a0.master).bind λy2=>(Ff a0).bind λy3=>br (!y3.1) (some (y1.1,1,())) (br (!y2.2.1) (some (y1.1,1,())) (br (y2.1.epoch==a0.master.activated) (some (y1.1,1,())) (br (decide ((IntKind.wrap .i64 (a0.masterUp*2))<=3)) (some (y1.1,8,())) (iteP (0<=y2.1.primary) ((a0.servers[y2.1.primary.toNat]?).bind λx4=>br (!x4.up) (some (y1.1,2,())) (iteP (0<=y2.1.primary) ((a0.sides[y2.1.primary.toNat]?).bind λx5=>br (!(x5==0)) (some (y1.1,10,())) ((IW a0.lease a0.now).bind λy6=>br (!y6.1) (some (y1.1,7,())) ((GC a0 y2.1.primary y2.1.epoch).bind λy7=>(Gp a0 y2.1.primary).bind λy8=>br (!y8.2.1) (some (y7.1,9,())) ((FV y2.1).bind λy9=>(OJ (((),(),(),(),(),(),0,()),((a0.now,a0.servers,a0.sides,a0.master.configs,a0.master.activated,a0.masterUp,a0.lease.epoch,a0.lease.holder,a0.lease.ends,a0.places,()),(0,(),(),(),0,0,0,0,0,(),()),(y7.1.now,(),(),(),y7.1.master.activated,y7.1.masterUp,y7.1.lease.epoch,y7.1.lease.holder,y7.1.lease.ends,(),()),(y2.1.epoch,y2.1.primary,(),(),()),()),y8.1,y9.1,y7.1.servers,y7.1.sides,y7.1.master.configs,y7.1.places,y2.1.replicas,y2.1.witnesses,())).bind λe47=>Sum.elim (λe47_0=>some ((⟨e47_0.2.1.2.1.1,e47_0.2.2.2.2.1,e47_0.2.2.2.2.2.1,(⟨e47_0.2.2.2.2.2.2.1,e47_0.2.1.2.1.2.2.2.2.1⟩:kB),e47_0.2.1.2.1.2.2.2.2.2.1,(⟨e47_0.2.1.2.1.2.2.2.2.2.2.1,e47_0.2.1.2.1.2.2.2.2.2.2.2.1,e47_0.2.1.2.1.2.2.2.2.2.2.2.2.1⟩:vz),e47_0.2.2.2.2.2.2.2.1⟩:qN),e47_0.1.2.2.1,())) (λe47_1=>(KX (((),(),(),(),(),(),0,()),e47_1.2)).bind λe85=>Sum.elim (λe85_0=>some ((⟨e85_0.2.1.2.1.1,e85_0.2.2.2.2.1,e85_0.2.2.2.2.2.1,(⟨e85_0.2.2.2.2.2.2.1,e85_0.2.1.2.1.2.2.2.2.1⟩:kB),e85_0.2.1.2.1.2.2.2.2.2.1,(⟨e85_0.2.1.2.1.2.2.2.2.2.2.1,e85_0.2.1.2.1.2.2.2.2.2.2.2.1,e85_0.2.1.2.1.2.2.2.2.2.2.2.2.1⟩:vz),e85_0.2.2.2.2.2.2.2.1⟩:qN),e85_0.1.2.2.1,())) (λe85_1=>(MO (((),(),(),(),(),(),0,()),e85_1.2)).bind λe130=>(Ga (⟨e130.2.1.1.2.2.2.1,e130.2.1.1.2.2.2.2.1⟩:kB) e130.2.1.2.2.2.1.1).bind λy131=>some ((⟨e130.2.1.2.2.1.1,e130.2.2.1,e130.2.2.2.1,y131.1,e130.2.1.2.2.1.2.2.2.2.2.1,(⟨0,0,0⟩:vz),e130.2.2.2.2.2.1⟩:qN),0,())) e85) e47)))) none)) none))))
def PL[dL] :=FB 34 Tryz.f34 SN P8 (λx=>HQ x.1) [Gn,WC,Fq,Rb,VE,Tg,Jo,O4] [VU,VV,VW] (by kernel_rfl) λx=>by simp only[HQ,tm];kernel_rfl
def IA(a0:qN)(a1:Int):Option (Bool×Unit):=
 (Ff a0).bind λy1=>br y1.1 ((Fo a1 0 4).bind λy2=>some (y2.1,())) (some (false,()))
def O7[dL] :=FB 307 Tryz.f307 M8 [.b] (λx=>IA x.1 x.2.1) [Fq,F7] [] (by kernel_rfl) λx=>by simp only[IA,tm];kernel_rfl
def KM(a0:qN)(a1:Int):Option (qN×Int×Unit):=
 (FS a0).bind λy1=>(IA a0 a1).bind λy2=>br (!y2.1) (some (y1.1,1,())) (iteP (0<=a1) ((a0.servers[a1.toNat]?).bind λx3=>br (!x3.up) (some (y1.1,2,())) (iteP (0<=a1/\a1< (y1.1.servers.length:Int)) ((y1.1.servers[a1.toNat]?).bind λx4=>some ((⟨y1.1.now,(y1.1.servers.set a1.toNat (⟨false,x4.intact,x4.version,x4.epoch,x4.config,x4.first,x4.log,x4.commit,x4.learned⟩:qQ)),y1.1.sides,y1.1.master,y1.1.masterUp,y1.1.lease,y1.1.places⟩:qN),0,())) none)) none)
def Vz[dL] :=FB 291 Tryz.f291 M8 P8 (λx=>KM x.1 x.2.1) [Gn,O7] [] (by kernel_rfl) λx=>by simp only[KM,tm];kernel_rfl
def JG(a0:qN)(a1:Int):Option (qN×Int×Unit):=
 (FS a0).bind λy1=>(IA a0 a1).bind λy2=>br (!y2.1) (some (y1.1,1,())) (iteP (0<=a1) ((a0.servers[a1.toNat]?).bind λx3=>br x3.up (some (y1.1,1,())) (iteP (0<=a1/\a1< (y1.1.servers.length:Int)) ((y1.1.servers[a1.toNat]?).bind λx4=>some ((⟨y1.1.now,(y1.1.servers.set a1.toNat (⟨true,x4.intact,x4.version,x4.epoch,x4.config,x4.first,x4.log,x4.commit,x4.learned⟩:qQ)),y1.1.sides,y1.1.master,y1.1.masterUp,y1.1.lease,y1.1.places⟩:qN),0,())) none)) none)
def TH[dL] :=FB 292 Tryz.f292 M8 P8 (λx=>JG x.1 x.2.1) [Gn,O7] [] (by kernel_rfl) λx=>by simp only[JG,tm];kernel_rfl
def Ny(a0:qQ):Option (qQ×Unit):=
 some ((⟨a0.up,false,a0.version,0,(⟨0,0,([]:List Int),([]:List Int)⟩:om),0,([]:List sf),0,([]:List sf)⟩:qQ),())
def WK[dL] :=FB 308 Tryz.f308 We abZ (λx=>Ny x.1) [] [] (by kernel_rfl) λx=>by simp only[Ny,tm];kernel_rfl
def NT(a0:qN)(a1:Int):Option (qN×Int×Unit):=
 (FS a0).bind λy1=>(IA a0 a1).bind λy2=>br (!y2.1) (some (y1.1,1,())) (iteP (0<=a1) ((a0.servers[a1.toNat]?).bind λx3=>(Ny x3).bind λy4=>iteP (0<=a1/\a1< (y1.1.servers.length:Int)) ((y1.1.servers[a1.toNat]?).bind λ_=>some ((⟨y1.1.now,(y1.1.servers.set a1.toNat y4.1),y1.1.sides,y1.1.master,y1.1.masterUp,y1.1.lease,y1.1.places⟩:qN),0,())) none) none)
def Yk[dL] :=FB 293 Tryz.f293 M8 P8 (λx=>NT x.1 x.2.1) [Gn,O7,WK] [] (by kernel_rfl) λx=>by simp only[NT,tm];kernel_rfl
def NU(a0:List Int)(a1:Int)(a2:Int):Option ((List Int)×Bool×Unit):=
 iteP ((([]:List Int)++a0).length*8<=2 ^ 40) ((HS a0).bind λy1=>br (!y1.1) (some ((([]:List Int)++a0),false,())) ((Fo a1 0 4).bind λy2=>br (!y2.1) (some ((([]:List Int)++a0),false,())) ((Fo a2 0 3).bind λy3=>br (!y3.1) (some ((([]:List Int)++a0),false,())) (iteP (0<=a1/\a1< ((([]:List Int)++a0).length:Int)) (((([]:List Int)++a0)[a1.toNat]?).bind λ_=>some (((([]:List Int)++a0).set a1.toNat a2),true,())) none)))) none
def Yl[dL] :=FB 309 Tryz.f309 aaJ [.ls (.i .i64),.b] (λx=>NU x.1 x.2.1 x.2.2.1) [PN,F7] [] (by kernel_rfl) λx=>by simp only[NU,tm];kernel_rfl
def LB(a0:qN)(a1:Int)(a2:Int):Option (qN×Int×Unit):=
 (FS a0).bind λy1=>(NU a0.sides a1 a2).bind λy2=>(Ff a0).bind λy3=>br (!y3.1) (some (y1.1,1,())) (br (!y2.2.1) (some (y1.1,1,())) (some ((⟨y1.1.now,y1.1.servers,y2.1,y1.1.master,y1.1.masterUp,y1.1.lease,y1.1.places⟩:qN),0,())))
def WE[dL] :=FB 294 Tryz.f294 TP P8 (λx=>LB x.1 x.2.1 x.2.2.1) [Gn,Yl,Fq] [] (by kernel_rfl) λx=>by simp only[LB,tm];kernel_rfl
def LG(a0:qN)(a1:Int):Option (qN×Int×Unit):=
 (FS a0).bind λy1=>(Ff a0).bind λy2=>br (!y2.1) (some (y1.1,1,())) ((Fo a1 0 3).bind λy3=>br (!y3.1) (some (y1.1,1,())) (some ((⟨y1.1.now,y1.1.servers,y1.1.sides,y1.1.master,a1,y1.1.lease,y1.1.places⟩:qN),0,())))
def WI[dL] :=FB 295 Tryz.f295 M8 P8 (λx=>LG x.1 x.2.1) [Gn,Fq,F7] [] (by kernel_rfl) λx=>by simp only[LG,tm];kernel_rfl
def Mf(a0:qN)(a1:Int):Option (qN×Int×Unit):=
 (FS a0).bind λy1=>(Ff a0).bind λy2=>br (!y2.1) (some (y1.1,1,())) ((Fo a1 0 (IntKind.wrap .i64 (999-a0.now))).bind λy3=>br (!y3.1) (some (y1.1,1,())) (some ((⟨(IntKind.wrap .i64 (a0.now+a1)),y1.1.servers,y1.1.sides,y1.1.master,y1.1.masterUp,y1.1.lease,y1.1.places⟩:qN),0,())))
def UA[dL] :=FB 59 Tryz.f59 M8 P8 (λx=>Mf x.1 x.2.1) [Gn,Fq,F7] [] (by kernel_rfl) λx=>by simp only[Mf,tm];kernel_rfl
def MY(a0:qN)(a1:Int)(a2:Int):Option (Bool×Unit):=
 (Ff a0).bind λy1=>br (!y1.1) (some (false,())) ((GN a0.sides a1 a2).bind λy2=>br (!y2.1) (some (false,())) (br (a1==a2) (some (false,())) (iteP (0<=a1) ((a0.servers[a1.toNat]?).bind λx3=>(F8 x3.config a1).bind λy4=>br x3.up (iteP (0<=a2) ((a0.servers[a2.toNat]?).bind λx5=>br x5.up (br (y4.1==1) (br (x3.config.epoch==a0.master.activated) ((F8 x3.config a2).bind λy6=>some ((y6.1==0),())) (some (false,()))) (br (y4.1==2) (br (x3.config.epoch==a0.master.activated) ((F8 x3.config a2).bind λy7=>some ((y7.1==0),())) (some (false,()))) (some (false,())))) (some (false,()))) none) (some (false,()))) none)))
def Xy[dL] :=FB 313 Tryz.f313 TP [.b] (λx=>MY x.1 x.2.1 x.2.2.1) [Fq,Ml,N1] [] (by kernel_rfl) λx=>by simp only[MY,tm];kernel_rfl
abbrev OP:LX:=⟨⟨[(0,.cl (.int .i64)),Y7,US],[],[],0,31⟩,[(.ext 0,⟨[Y7,US],[],[],0,31⟩)],[],[0,3,4],[3,4]⟩
def Mz(s: (Int×ByteArray×Bool×Unit)×Unit×Unit):OP.R:=
 br (!(s.1.1==0)) (let j5 (p4:Int):OP.R:=iteP (0< ([(IntKind.wrap .u8 (IntKind.wrap .i64 (48+p4)))]:List Int).length/\0+([(IntKind.wrap .u8 (IntKind.wrap .i64 (48+p4)))]:List Int).length<=([(IntKind.wrap .u8 (IntKind.wrap .i64 (48+p4)))]:List Int).length) (iteP ((Cu ((([(IntKind.wrap .u8 (IntKind.wrap .i64 (48+p4)))]:List Int).drop 0).take (([(IntKind.wrap .u8 (IntKind.wrap .i64 (48+p4)))]:List Int).length))).size+s.1.2.1.size<=2 ^ 40) (some (.inl (((IntKind.wrap .i64 (Int.tdiv s.1.1 10)),((Cu ((([(IntKind.wrap .u8 (IntKind.wrap .i64 (48+p4)))]:List Int).drop 0).take (([(IntKind.wrap .u8 (IntKind.wrap .i64 (48+p4)))]:List Int).length)))++s.1.2.1),s.1.2.2),(()),(())))) none) none;br (decide ((Int.tmod s.1.1 10)<0)) (j5 (IntKind.wrap .i64 (0-(Int.tmod s.1.1 10)))) (j5 (Int.tmod s.1.1 10))) (some (.inr (s.1.2,(()),(()))))
def VG:=md Mz
def VY[dL] :=Ik Tryz.f320 [0] OP Mz [] [] (by kernel_rfl) λs=>by simp only[Mz,tm];kernel_rfl
def Hk(a0:Int):Option (ByteArray×Unit):=
 br (a0==0) (some ((⟨⟨[48]⟩⟩:ByteArray),())) ((VG ((a0,ByteArray.empty,(decide (a0<0)),()),(()),(()))).bind λe6=>br e6.1.2.1 (iteP ((⟨⟨[45]⟩⟩:ByteArray).size+e6.1.1.size<=2 ^ 40) (some (((⟨⟨[45]⟩⟩:ByteArray)++e6.1.1),())) none) (some (e6.1.1,())))
def Tc[dL] :=FB 320 Tryz.f320 WT [.s] (λx=>Hk x.1) [] [VY] (by kernel_rfl) λx=>by simp only[Hk,tm];kernel_rfl
def NS(a0:Op):Option (ByteArray×Unit):=
 (F2 a0).bind λy1=>br (!y1.1) (some (ByteArray.empty,())) ((Hk a0.client).bind λy2=>iteP (y2.1.size+(⟨⟨[46]⟩⟩:ByteArray).size<=2 ^ 40) ((Hk a0.seq).bind λy3=>iteP ((y2.1++(⟨⟨[46]⟩⟩:ByteArray)).size+y3.1.size<=2 ^ 40) (iteP (((y2.1++(⟨⟨[46]⟩⟩:ByteArray))++y3.1).size+(⟨⟨[32]⟩⟩:ByteArray).size<=2 ^ 40) (br (a0.kind==1) (iteP ((((y2.1++(⟨⟨[46]⟩⟩:ByteArray))++y3.1)++(⟨⟨[32]⟩⟩:ByteArray)).size+(⟨⟨[119,114,105,116,101,32]⟩⟩:ByteArray).size<=2 ^ 40) ((Hk a0.object).bind λy4=>iteP (((((y2.1++(⟨⟨[46]⟩⟩:ByteArray))++y3.1)++(⟨⟨[32]⟩⟩:ByteArray))++(⟨⟨[119,114,105,116,101,32]⟩⟩:ByteArray)).size+y4.1.size<=2 ^ 40) (iteP ((((((y2.1++(⟨⟨[46]⟩⟩:ByteArray))++y3.1)++(⟨⟨[32]⟩⟩:ByteArray))++(⟨⟨[119,114,105,116,101,32]⟩⟩:ByteArray))++y4.1).size+(⟨⟨[32]⟩⟩:ByteArray).size<=2 ^ 40) ((Hk a0.value).bind λy5=>iteP (((((((y2.1++(⟨⟨[46]⟩⟩:ByteArray))++y3.1)++(⟨⟨[32]⟩⟩:ByteArray))++(⟨⟨[119,114,105,116,101,32]⟩⟩:ByteArray))++y4.1)++(⟨⟨[32]⟩⟩:ByteArray)).size+y5.1.size<=2 ^ 40) (some ((((((((y2.1++(⟨⟨[46]⟩⟩:ByteArray))++y3.1)++(⟨⟨[32]⟩⟩:ByteArray))++(⟨⟨[119,114,105,116,101,32]⟩⟩:ByteArray))++y4.1)++(⟨⟨[32]⟩⟩:ByteArray))++y5.1),())) none) none) none) none) (iteP ((((y2.1++(⟨⟨[46]⟩⟩:ByteArray))++y3.1)++(⟨⟨[32]⟩⟩:ByteArray)).size+(⟨⟨[115,119,97,112,32]⟩⟩:ByteArray).size<=2 ^ 40) ((Hk a0.object).bind λy6=>iteP (((((y2.1++(⟨⟨[46]⟩⟩:ByteArray))++y3.1)++(⟨⟨[32]⟩⟩:ByteArray))++(⟨⟨[115,119,97,112,32]⟩⟩:ByteArray)).size+y6.1.size<=2 ^ 40) (iteP ((((((y2.1++(⟨⟨[46]⟩⟩:ByteArray))++y3.1)++(⟨⟨[32]⟩⟩:ByteArray))++(⟨⟨[115,119,97,112,32]⟩⟩:ByteArray))++y6.1).size+(⟨⟨[32]⟩⟩:ByteArray).size<=2 ^ 40) ((Hk a0.old).bind λy7=>iteP (((((((y2.1++(⟨⟨[46]⟩⟩:ByteArray))++y3.1)++(⟨⟨[32]⟩⟩:ByteArray))++(⟨⟨[115,119,97,112,32]⟩⟩:ByteArray))++y6.1)++(⟨⟨[32]⟩⟩:ByteArray)).size+y7.1.size<=2 ^ 40) (iteP ((((((((y2.1++(⟨⟨[46]⟩⟩:ByteArray))++y3.1)++(⟨⟨[32]⟩⟩:ByteArray))++(⟨⟨[115,119,97,112,32]⟩⟩:ByteArray))++y6.1)++(⟨⟨[32]⟩⟩:ByteArray))++y7.1).size+(⟨⟨[32]⟩⟩:ByteArray).size<=2 ^ 40) ((Hk a0.value).bind λy8=>iteP (((((((((y2.1++(⟨⟨[46]⟩⟩:ByteArray))++y3.1)++(⟨⟨[32]⟩⟩:ByteArray))++(⟨⟨[115,119,97,112,32]⟩⟩:ByteArray))++y6.1)++(⟨⟨[32]⟩⟩:ByteArray))++y7.1)++(⟨⟨[32]⟩⟩:ByteArray)).size+y8.1.size<=2 ^ 40) (some ((((((((((y2.1++(⟨⟨[46]⟩⟩:ByteArray))++y3.1)++(⟨⟨[32]⟩⟩:ByteArray))++(⟨⟨[115,119,97,112,32]⟩⟩:ByteArray))++y6.1)++(⟨⟨[32]⟩⟩:ByteArray))++y7.1)++(⟨⟨[32]⟩⟩:ByteArray))++y8.1),())) none) none) none) none) none) none)) none) none) none)
def Yi[dL] :=FB 321 Tryz.f321 XE [.s] (λx=>NS x.1) [M4,Tc] [] (by kernel_rfl) λx=>by simp only[NS,tm];kernel_rfl
abbrev OQ:LX:=⟨⟨[QB,Y7,Oq],[],[],0,38⟩,[(.ext 0,⟨[Y7],[],[],0,38⟩)],[],[0,3,4],[3]⟩
def MA(s: (List sf×ByteArray×Int×Unit)×Unit×Unit):OQ.R:=
 br (decide (s.1.2.2.1< (s.1.1.length:Int))) (let j10 (p5:ByteArray):OQ.R:=iteP (0<=s.1.2.2.1) ((s.1.1[s.1.2.2.1.toNat]?).bind λx6=>(Hk x6.epoch).bind λy7=>iteP (p5.size+y7.1.size<=2 ^ 40) (iteP ((p5++y7.1).size+(⟨⟨[58]⟩⟩:ByteArray).size<=2 ^ 40) (iteP (0<=s.1.2.2.1) ((s.1.1[s.1.2.2.1.toNat]?).bind λx8=>(NS x8.op).bind λy9=>iteP (((p5++y7.1)++(⟨⟨[58]⟩⟩:ByteArray)).size+y9.1.size<=2 ^ 40) (some (.inl ((s.1.1,(((p5++y7.1)++(⟨⟨[58]⟩⟩:ByteArray))++y9.1),(IntKind.wrap .i64 (s.1.2.2.1+1)),()),(()),(())))) none) none) none) none) none;br (decide (s.1.2.2.1>0)) (iteP (s.1.2.1.size+(⟨⟨[59]⟩⟩:ByteArray).size<=2 ^ 40) (j10 (s.1.2.1++(⟨⟨[59]⟩⟩:ByteArray))) none) (j10 s.1.2.1)) (some (.inr ((s.1.2.1,()),(()),(()))))
def VH:=md MA
def VZ[dL] :=Ik Tryz.f319 [0] OQ MA [Tc,Yi] [] (by kernel_rfl) λs=>by simp only[MA,tm];kernel_rfl
def MR(a0:List sf):Option (ByteArray×Unit):=
 (F9 a0).bind λy1=>br (!y1.1) (some (ByteArray.empty,())) (br ((a0.length:Int)==0) (some ((⟨⟨[110,111,110,101]⟩⟩:ByteArray),())) ((VH ((a0,ByteArray.empty,0,()),(()),(()))).bind λe11=>some e11.1))
def Xp[dL] :=FB 319 Tryz.f319 Sd [.s] (λx=>MR x.1) [NB] [VZ] (by kernel_rfl) λx=>by simp only[MR,tm];kernel_rfl
abbrev Sk:LX:=⟨⟨[(0,.cl (.str)),OM,Oq],[],[],0,21⟩,[(.ext 0,⟨[OM],[],[],0,21⟩)],[],[0,3,4],[3]⟩
def Nu(s: (ByteArray×Int×Int×Unit)×Unit×Unit):Sk.R:=
 br (decide (s.1.2.2.1< (s.1.1.size:Int))) (iteP (0<=s.1.2.2.1) ((s.1.1[s.1.2.2.1.toNat]?).bind λx4=>some (.inl ((s.1.1,(Int.tmod (IntKind.wrap .i64 ((IntKind.wrap .i64 ((IntKind.wrap .i64 (s.1.2.1*257))+(IntKind.wrap .i64 (x4.toNat:Int))))+1)) 9949),(IntKind.wrap .i64 (s.1.2.2.1+1)),()),(()),(())))) none) (some (.inr ((s.1.2.1,()),(()),(()))))
def WR:=md Nu
def WY[dL] :=Ik Tryz.f318 [0] Sk Nu [] [] (by kernel_rfl) λs=>by simp only[Nu,tm];kernel_rfl
def NQ(a0:ByteArray):Option (Int×Unit):=
 (WR ((a0,5,0,()),(()),(()))).bind λe5=>some e5.1
def Yg[dL] :=FB 318 Tryz.f318 [.ty (.s)] Kk (λx=>NQ x.1) [] [WY] (by kernel_rfl) λx=>by simp only[NQ,tm];kernel_rfl
abbrev QL:LX:=⟨⟨[QB,Wf,Oq,Ob],[],JA,0,37⟩,[(.ext 0,⟨[Wf],[],JA,0,37⟩)],[],[0,3,4,5],[3]⟩
def Lo(s:ac0×Unit×List Int×Unit):QL.R:=
 br (decide (s.1.2.2.2.1< (s.1.1.length:Int))) (iteP (0<=s.1.2.2.2.1/\s.1.2.2.2.1<=(IntKind.wrap .i64 (s.1.2.2.2.1+1))/\(IntKind.wrap .i64 (s.1.2.2.2.1+1))<=(s.1.1.length:Int)) ((MR ((s.1.1.drop s.1.2.2.2.1.toNat).take ((IntKind.wrap .i64 (s.1.2.2.2.1+1)).toNat-s.1.2.2.2.1.toNat))).bind λy6=>(NQ y6.1).bind λy7=>iteP ((s.2.2.1++([(Int.tmod (IntKind.wrap .i64 ((IntKind.wrap .i64 (s.1.2.2.1*31))+y7.1)) 9973)]:List Int)).length*8<=2 ^ 40) (some (.inl ((s.1.1,(),(Int.tmod (IntKind.wrap .i64 ((IntKind.wrap .i64 (s.1.2.2.1*31))+y7.1)) 9973),(IntKind.wrap .i64 (s.1.2.2.2.1+1)),()),(()),(s.2.2.1++([(Int.tmod (IntKind.wrap .i64 ((IntKind.wrap .i64 (s.1.2.2.1*31))+y7.1)) 9973)]:List Int)),()))) none) none) (some (.inr (((),()),(()),s.2.2)))
def UO:=md Lo
def U9[dL] :=Ik Tryz.f317 [0] QL Lo [Xp,Yg] [] (by kernel_rfl) λs=>by simp only[Lo,tm];kernel_rfl
def Lx(a0:List sf):Option ((List Int)×Unit):=
 (F9 a0).bind λy1=>br (!y1.1) (some (([]:List Int),())) (iteP ((([]:List Int)++([11]:List Int)).length*8<=2 ^ 40) ((UO ((a0,(),11,0,()),(()),(([]:List Int)++([11]:List Int)),())).bind λe8=>some e8.2.2) none)
def Wz[dL] :=FB 317 Tryz.f317 Sd L5 (λx=>Lx x.1) [NB] [U9] (by kernel_rfl) λx=>by simp only[Lx,tm];kernel_rfl
def Me(a0:List sf)(a1:Int):Option (Int×Unit):=
 (Lx a0).bind λy1=>(Fo a1 0 (IntKind.wrap .i64 ((y1.1.length:Int)-1))).bind λy2=>br (!y2.1) (some ((-1),())) (iteP (0<=a1/\a1< (y1.1.length:Int)) ((y1.1[a1.toNat]?).bind λx3=>some (x3,())) none)
def Uw[dL] :=FB 316 Tryz.f316 aaK Kk (λx=>Me x.1 x.2.1) [Wz,F7] [] (by kernel_rfl) λx=>by simp only[Me,tm];kernel_rfl
def K3(a0:qQ):Option (Int×Unit):=
 (Me a0.learned (a0.learned.length:Int)).bind λy1=>some (y1.1,())
def TG[dL] :=FB 315 Tryz.f315 We Kk (λx=>K3 x.1) [Uw] [] (by kernel_rfl) λx=>by simp only[K3,tm];kernel_rfl
def LD(a0:List sf)(a1:Int)(a2:Int):Option (Bool×Unit):=
 br (decide (a2≥0)) ((Me a0 a1).bind λy1=>some ((y1.1==a2),())) (some (false,()))
def UB[dL] :=FB 314 Tryz.f314 acy [.b] (λx=>LD x.1 x.2.1 x.2.2.1) [Uw] [] (by kernel_rfl) λx=>by simp only[LD,tm];kernel_rfl
def KK(a0:qN)(a1:Int)(a2:Int):Option (Int×Unit):=
 (MY a0 a1 a2).bind λy1=>br (!y1.1) (some ((-1),())) (iteP (0<=a1) ((a0.servers[a1.toNat]?).bind λx2=>(FM x2).bind λy3=>iteP (0<=a2) ((a0.servers[a2.toNat]?).bind λx4=>iteP (0<=a2) ((a0.servers[a2.toNat]?).bind λx5=>(K3 x5).bind λy6=>(LD y3.1 (x4.learned.length:Int) y6.1).bind λy7=>br (!y7.1) (some ((IntKind.wrap .i64 ((y3.1.length:Int)-0)),())) (some ((IntKind.wrap .i64 ((y3.1.length:Int)-(x4.learned.length:Int))),()))) none) none) none)
def Vx[dL] :=FB 310 Tryz.f310 TP Kk (λx=>KK x.1 x.2.1 x.2.2.1) [Xy,K6,TG,UB] [] (by kernel_rfl) λx=>by simp only[KK,tm];kernel_rfl
def KL(a0:qN)(a1:Int)(a2:Int)(a3:Int):Option (qN×Int×Unit):=
 (FS a0).bind λy1=>(KK a0 a1 a2).bind λy2=>br (decide (y2.1<0)) (some (y1.1,0,())) ((Fo a3 1 4).bind λy3=>br (!y3.1) (some (y1.1,0,())) (iteP (0<=a1) ((a0.servers[a1.toNat]?).bind λx4=>(FM x4).bind λy5=>iteP (0<=(0:Int)/\(0:Int)<=(IntKind.wrap .i64 ((IntKind.wrap .i64 ((y5.1.length:Int)-y2.1))+(if a3<y2.1 then a3 else y2.1)))/\(IntKind.wrap .i64 ((IntKind.wrap .i64 ((y5.1.length:Int)-y2.1))+(if a3<y2.1 then a3 else y2.1)))<=((y5.1.length:Nat):Int)) (iteP ((0+(0:Int).toNat)+((IntKind.wrap .i64 ((IntKind.wrap .i64 ((y5.1.length:Int)-y2.1))+(if a3<y2.1 then a3 else y2.1))).toNat-(0:Int).toNat)<=y5.1.length) ((GM ((y5.1.drop (0+(0:Int).toNat)).take ((IntKind.wrap .i64 ((IntKind.wrap .i64 ((y5.1.length:Int)-y2.1))+(if a3<y2.1 then a3 else y2.1))).toNat-(0:Int).toNat))).bind λy6=>iteP (0<=a2/\a2< (y1.1.servers.length:Int)) ((y1.1.servers[a2.toNat]?).bind λx7=>some ((⟨y1.1.now,(y1.1.servers.set a2.toNat (⟨x7.up,x7.intact,x7.version,x7.epoch,x7.config,x7.first,x7.log,x7.commit,y6.1⟩:qQ)),y1.1.sides,y1.1.master,y1.1.masterUp,y1.1.lease,y1.1.places⟩:qN),(if a3<y2.1 then a3 else y2.1),())) none) none) none) none))
def Vy[dL] :=FB 296 Tryz.f296 acG P8 (λx=>KL x.1 x.2.1 x.2.2.1 x.2.2.2.1) [Gn,Vx,F7,K6,KS] [] (by kernel_rfl) λx=>by simp only[KL,tm];kernel_rfl
def JI(a0:qN)(a1:Int):Option (qN×Int×Unit):=
 (FS a0).bind λy1=>(IA a0 a1).bind λy2=>br (!y2.1) (some (y1.1,1,())) (iteP (0<=a1) ((a0.servers[a1.toNat]?).bind λx3=>br (x3.version==2) (some (y1.1,1,())) (iteP (0<=a1) ((a0.servers[a1.toNat]?).bind λx4=>br (!x4.up) (some (y1.1,2,())) (iteP (0<=a1/\a1< (y1.1.servers.length:Int)) ((y1.1.servers[a1.toNat]?).bind λx5=>some ((⟨y1.1.now,(y1.1.servers.set a1.toNat (⟨x5.up,x5.intact,2,x5.epoch,x5.config,x5.first,x5.log,x5.commit,x5.learned⟩:qQ)),y1.1.sides,y1.1.master,y1.1.masterUp,y1.1.lease,y1.1.places⟩:qN),0,())) none)) none)) none)
def TK[dL] :=FB 297 Tryz.f297 M8 P8 (λx=>JI x.1 x.2.1) [Gn,O7] [] (by kernel_rfl) λx=>by simp only[JI,tm];kernel_rfl
def Jf(a0:List sf):Option (Bool×Unit):=
 (FO a0).bind λy1=>some (y1.1,())
def Qp[dL] :=FB 311 Tryz.f311 Sd [.b] (λx=>Jf x.1) [N2] [] (by kernel_rfl) λx=>by simp only[Jf,tm];kernel_rfl
abbrev Kl:LX:=⟨⟨[LW,M9,Tm,aaR,aaM,Pj],[KC,Na,VP,aa3],XK,0,80⟩,[(.ret,⟨[LW,Pi,Ob,QC],[VP,VP],XK,0,80⟩),(.ext 0,⟨[LW,Pi,(5,.cl (.dead)),QC],[Na,VP],XK,0,80⟩)],[],[1,2,4,6,7,8],[1,4,5,6]⟩
def IC(s: (Int×Unit×Unit×Unit×Unit×Int×Unit)×(NF×Nh×Nh×aaX×Unit)×List qQ×List Int×List om×List vB×Unit):Kl.R:=
 br (decide (s.1.2.2.2.2.2.1< (s.2.1.1.2.1.length:Int))) ((JS (⟨s.2.1.2.2.2.1.2.2.2.2.1,s.2.1.2.2.2.1.2.2.2.2.2.1,s.2.1.2.2.2.1.2.2.2.2.2.2.1,s.2.1.2.2.2.1.2.2.2.2.2.2.2.1⟩:om)).bind λy47=>br (!y47.1) (iteP (0<=s.1.2.2.2.2.2.1) ((s.2.1.1.2.1[s.1.2.2.2.2.2.1.toNat]?).bind λx48=>(Hf x48.config (⟨s.2.1.2.2.2.1.2.2.2.2.1,s.2.1.2.2.2.1.2.2.2.2.2.1,s.2.1.2.2.2.1.2.2.2.2.2.2.1,s.2.1.2.2.2.1.2.2.2.2.2.2.2.1⟩:om)).bind λy49=>let j52:Kl.R:=some (.inl ((s.1.1,(),(),(),(),(IntKind.wrap .i64 (s.1.2.2.2.2.2.1+1)),()),s.2));br y49.1 (iteP (0<=s.1.2.2.2.2.2.1) ((s.2.1.1.2.1[s.1.2.2.2.2.2.1.toNat]?).bind λx50=>(Jf x50.log).bind λy51=>br y51.1 (some (.inr (.inl ((s.1.1,(),6,(),()),(s.2.1.2.2.1,s.2.1.2.2.1,()),s.2.2)))) (j52)) none) (j52)) none) (some (.inr (.inr ((s.1.1,(),(),(),()),(s.2.1.2.1,s.2.1.2.2.1,()),s.2.2))))) (some (.inr (.inr ((s.1.1,(),(),(),()),(s.2.1.2.1,s.2.1.2.2.1,()),s.2.2))))
def Qx:=md IC
def QS[dL] :=Ik Tryz.f298 [0] Kl IC [Qp,Q0,LL] [] (by kernel_rfl) λs=>by simp only[IC,tm];kernel_rfl
def IL(a0:qN)(a1:Int):Option (qN×Int×Unit):=
 (FS a0).bind λy1=>(IA a0 a1).bind λy2=>br (!y2.1) (some (y1.1,1,())) (iteP (0<=a1) ((a0.servers[a1.toNat]?).bind λx3=>br (x3.version==1) (some (y1.1,1,())) (iteP (0<=a1) ((a0.servers[a1.toNat]?).bind λx4=>br (!x4.up) (some (y1.1,2,())) (iteP (0<=a1) ((a0.servers[a1.toNat]?).bind λx5=>(Jf x5.learned).bind λy6=>br y6.1 (some (y1.1,6,())) ((Qx ((a1,(),(),(),(),0,()),((a0.now,a0.servers,a0.sides,a0.master.configs,a0.master.activated,a0.masterUp,a0.lease.epoch,a0.lease.holder,a0.lease.ends,a0.places,()),(0,(),(),(),0,0,0,0,0,(),()),(y1.1.now,(),(),(),y1.1.master.activated,y1.1.masterUp,y1.1.lease.epoch,y1.1.lease.holder,y1.1.lease.ends,(),()),(x5.up,x5.intact,x5.version,x5.epoch,x5.config.epoch,x5.config.primary,x5.config.replicas,x5.config.witnesses,x5.first,x5.log,x5.commit,x5.learned,()),()),y1.1.servers,y1.1.sides,y1.1.master.configs,y1.1.places,())).bind λe53=>Sum.elim (λe53_0=>some ((⟨e53_0.2.1.1.1,e53_0.2.2.1,e53_0.2.2.2.1,(⟨e53_0.2.2.2.2.1,e53_0.2.1.1.2.2.2.2.1⟩:kB),e53_0.2.1.1.2.2.2.2.2.1,(⟨e53_0.2.1.1.2.2.2.2.2.2.1,e53_0.2.1.1.2.2.2.2.2.2.2.1,e53_0.2.1.1.2.2.2.2.2.2.2.2.1⟩:vz),e53_0.2.2.2.2.2.1⟩:qN),e53_0.1.2.2.1,())) (λe53_1=>iteP (0<=e53_1.1.1/\e53_1.1.1< (e53_1.2.2.1.length:Int)) ((e53_1.2.2.1[e53_1.1.1.toNat]?).bind λx54=>some ((⟨e53_1.2.1.2.1.1,(e53_1.2.2.1.set e53_1.1.1.toNat (⟨x54.up,x54.intact,1,x54.epoch,x54.config,x54.first,x54.log,x54.commit,x54.learned⟩:qQ)),e53_1.2.2.2.1,(⟨e53_1.2.2.2.2.1,e53_1.2.1.2.1.2.2.2.2.1⟩:kB),e53_1.2.1.2.1.2.2.2.2.2.1,(⟨e53_1.2.1.2.1.2.2.2.2.2.2.1,e53_1.2.1.2.1.2.2.2.2.2.2.2.1,e53_1.2.1.2.1.2.2.2.2.2.2.2.2.1⟩:vz),e53_1.2.2.2.2.2.1⟩:qN),0,())) none) e53)) none)) none)) none)
def R2[dL] :=FB 298 Tryz.f298 M8 P8 (λx=>IL x.1 x.2.1) [Gn,O7,Qp] [QS] (by kernel_rfl) λx=>by simp only[IL,tm];kernel_rfl
abbrev Oi:LX:=⟨⟨[LV,Se,Oa,OA],[KC,ZR],aa7,0,64⟩,[(.ret,⟨[Re,Tn],[aa4],aa6,0,64⟩),(.ext 0,⟨[Nr,Tn],[aa4],aa6,0,64⟩)],[],[1,3,5,6],[2,3]⟩
def Gv(s:abY×(NF×Sg×Unit)×List Int×List Int×List Int×Unit):Oi.R:=
 br (decide (s.1.2.2.2.1< (s.2.2.1.length:Int))) (iteP (0<=s.1.2.2.2.1/\s.1.2.2.2.1< (s.2.2.1.length:Int)) ((s.2.2.1[s.1.2.2.2.1.toNat]?).bind λx23=>(HU (⟨s.2.1.1.1,s.2.1.1.2.1,s.2.1.1.2.2.1,(⟨s.2.1.1.2.2.2.1,s.2.1.1.2.2.2.2.1⟩:kB),s.2.1.1.2.2.2.2.2.1,(⟨s.2.1.1.2.2.2.2.2.2.1,s.2.1.1.2.2.2.2.2.2.2.1,s.2.1.1.2.2.2.2.2.2.2.2.1⟩:vz),s.2.1.1.2.2.2.2.2.2.2.2.2.1⟩:qN) s.2.1.2.1.2.1 x23).bind λy24=>br (!y24.1) (some (.inr (.inl (((-1),(),()),s.2.1.2,s.2.2.2)))) (some (.inl (((),(),(),(IntKind.wrap .i64 (s.1.2.2.2.1+1)),()),s.2)))) none) (some (.inr (.inr (((),(),()),s.2.1.2,s.2.2.2))))
def Lb:=md Gv
def RI[dL] :=Ik Tryz.f15 [0] Oi Gv [UG] [] (by kernel_rfl) λs=>by simp only[Gv,tm];kernel_rfl
def FY(a0:qN):Option (Int×Unit):=
 (Fm a0.master).bind λy1=>(Ff a0).bind λy2=>br (!y2.1) (some ((-1),())) (br (!y1.2.1) (some ((-1),())) (iteP (0<=y1.1.primary) ((a0.servers[y1.1.primary.toNat]?).bind λx3=>(FT x3 y1.1.primary).bind λy4=>br (!y4.1) (some ((-1),())) (iteP (0<=y1.1.primary) ((a0.servers[y1.1.primary.toNat]?).bind λx5=>br (!(x5.config.epoch==y1.1.epoch)) (some ((-1),())) ((FV y1.1).bind λy6=>(Lb (((),(),(),0,()),((a0.now,a0.servers,a0.sides,a0.master.configs,a0.master.activated,a0.masterUp,a0.lease.epoch,a0.lease.holder,a0.lease.ends,a0.places,()),(y1.1.epoch,y1.1.primary,(),(),()),()),y6.1,y1.1.replicas,y1.1.witnesses,())).bind λe25=>Sum.elim (λe25_0=>some (e25_0.1.1,())) (λe25_1=>some (e25_1.2.1.1.2.1,())) e25)) none)) none))
def SD[dL] :=FB 15 Tryz.f15 SN Kk (λx=>FY x.1) [Hm,Fq,Kg,Jo] [RI] (by kernel_rfl) λx=>by simp only[FY,tm];kernel_rfl
def H3(a0:qN):Option (Bool×Unit):=
 (FY a0).bind λy1=>some ((decide (y1.1≥0)),())
def Td[dL] :=FB 13 Tryz.f13 SN [.b] (λx=>H3 x.1) [SD] [] (by kernel_rfl) λx=>by simp only[H3,tm];kernel_rfl
def MT(a0:qN)(a1:Int):Option (Int×Unit):=
 (Fm a0.master).bind λy1=>(Ff a0).bind λy2=>br (!y2.1) (some (1,())) (br (!y1.2.1) (some (1,())) ((F1 y1.1.replicas a1).bind λy3=>br (!y3.1) (some (1,())) (br (a1==y1.1.primary) (some (1,())) (br (!((a0.master.configs.length:Int)==y1.1.epoch)) (some (1,())) (br (y1.1.epoch==20) (some (1,())) (br (decide ((IntKind.wrap .i64 (a0.masterUp*2))<=3)) (some (8,())) ((H3 a0).bind λy4=>br (!y4.1) (some (10,())) (iteP (0<=y1.1.primary) ((a0.sides[y1.1.primary.toNat]?).bind λx5=>br (!(x5==0)) (some (10,())) (br (decide (a0.lease.ends>0)) (br (!(a0.lease.holder==y1.1.primary)) (some (7,())) (some (0,()))) (some (0,())))) none))))))))
def Xr[dL] :=FB 25 Tryz.f25 M8 Kk (λx=>MT x.1 x.2.1) [Hm,Fq,H4,Td] [] (by kernel_rfl) λx=>by simp only[MT,tm];kernel_rfl
def JH(a0:qN)(a1:Int):Option (qN×Int×Unit):=
 (FS a0).bind λy1=>(MT a0 a1).bind λy2=>br (!(y2.1==0)) (some (y1.1,y2.1,())) ((Fm a0.master).bind λy3=>(Ix a0 y3.1.primary).bind λy4=>(GX (⟨y4.1.now,y4.1.servers,y4.1.sides,y4.1.master,y4.1.masterUp,(⟨0,0,0⟩:vz),y4.1.places⟩:qN) (⟨(IntKind.wrap .i64 (y3.1.epoch+1)),a1,y3.1.replicas,y3.1.witnesses⟩:om)).bind λy5=>(HQ y5.1).bind λy6=>some (y6.1,y6.2.1,()))
def TJ[dL] :=FB 23 Tryz.f23 M8 P8 (λx=>JH x.1 x.2.1) [Gn,Xr,Hm,PU,KR,PL] [] (by kernel_rfl) λx=>by simp only[JH,tm];kernel_rfl
def KP(a0:qN)(a1:Int)(a2:Int):Option (qN×Int×Unit):=
 (FS a0).bind λy1=>(Ff a0).bind λy2=>br (!y2.1) (some (y1.1,1,())) ((Fo a2 1 50).bind λy3=>br (!y3.1) (some (y1.1,1,())) ((H3 a0).bind λy4=>br y4.1 (some (y1.1,0,())) ((Kv a0 a1 0).bind λy5=>br (!y5.2.1) (some (y1.1,10,())) ((GX a0 y5.1).bind λy6=>br (!(y6.2.1==0)) (some (y1.1,y6.2.1,())) ((Mh a0.lease).bind λy7=>(Mf y6.1 (if (IntKind.wrap .i64 (y7.1-a0.now))>0 then (IntKind.wrap .i64 (y7.1-a0.now)) else 0)).bind λy8=>br (!(y8.2.1==0)) (some (y1.1,y8.2.1,())) ((HQ y8.1).bind λy9=>br (!(y9.2.1==0)) (some (y9.1,y9.2.1,())) ((Kx y9.1 y5.1.primary a2).bind λy10=>some (y10.1,y10.2.1,()))))))))
def VD[dL] :=FB 10 Tryz.f10 TP P8 (λx=>KP x.1 x.2.1 x.2.2.1) [Gn,Fq,F7,Td,R4,KR,UD,UA,PL,R5] [] (by kernel_rfl) λx=>by simp only[KP,tm];kernel_rfl
def O1(a0:qN)(a1:xx):Option (qN×Int×Unit):=
 let j28 (p17:Int) (p18:List qQ) (p19:List Int) (p20:List om) (p21:Int) (p22:Int) (p23:Int) (p24:Int) (p25:Int) (p26:List vB) (p27:Int):Option (qN×Int×Unit):=some ((⟨p17,p18,p19,(⟨p20,p21⟩:kB),p22,(⟨p23,p24,p25⟩:vz),p26⟩:qN),p27,());br (a1.kind==3) ((Kx a0 a1.server a1.n).bind λy1=>j28 y1.1.now y1.1.servers y1.1.sides y1.1.master.configs y1.1.master.activated y1.1.masterUp y1.1.lease.epoch y1.1.lease.holder y1.1.lease.ends y1.1.places y1.2.1) (br (a1.kind==4) ((Kv a0 a1.n a1.other).bind λy2=>br (!y2.2.1) ((FS a0).bind λy3=>some (y3.1,10,())) ((GX a0 y2.1).bind λy4=>j28 y4.1.now y4.1.servers y4.1.sides y4.1.master.configs y4.1.master.activated y4.1.masterUp y4.1.lease.epoch y4.1.lease.holder y4.1.lease.ends y4.1.places y4.2.1)) (br (a1.kind==5) ((HQ a0).bind λy5=>j28 y5.1.now y5.1.servers y5.1.sides y5.1.master.configs y5.1.master.activated y5.1.masterUp y5.1.lease.epoch y5.1.lease.holder y5.1.lease.ends y5.1.places y5.2.1) (br (a1.kind==6) ((KM a0 a1.server).bind λy6=>j28 y6.1.now y6.1.servers y6.1.sides y6.1.master.configs y6.1.master.activated y6.1.masterUp y6.1.lease.epoch y6.1.lease.holder y6.1.lease.ends y6.1.places y6.2.1) (br (a1.kind==7) ((JG a0 a1.server).bind λy7=>j28 y7.1.now y7.1.servers y7.1.sides y7.1.master.configs y7.1.master.activated y7.1.masterUp y7.1.lease.epoch y7.1.lease.holder y7.1.lease.ends y7.1.places y7.2.1) (br (a1.kind==8) ((NT a0 a1.server).bind λy8=>j28 y8.1.now y8.1.servers y8.1.sides y8.1.master.configs y8.1.master.activated y8.1.masterUp y8.1.lease.epoch y8.1.lease.holder y8.1.lease.ends y8.1.places y8.2.1) (br (a1.kind==9) ((LB a0 a1.server a1.n).bind λy9=>j28 y9.1.now y9.1.servers y9.1.sides y9.1.master.configs y9.1.master.activated y9.1.masterUp y9.1.lease.epoch y9.1.lease.holder y9.1.lease.ends y9.1.places y9.2.1) (br (a1.kind==10) ((LG a0 a1.n).bind λy10=>j28 y10.1.now y10.1.servers y10.1.sides y10.1.master.configs y10.1.master.activated y10.1.masterUp y10.1.lease.epoch y10.1.lease.holder y10.1.lease.ends y10.1.places y10.2.1) (br (a1.kind==11) ((Mf a0 a1.n).bind λy11=>j28 y11.1.now y11.1.servers y11.1.sides y11.1.master.configs y11.1.master.activated y11.1.masterUp y11.1.lease.epoch y11.1.lease.holder y11.1.lease.ends y11.1.places y11.2.1) (br (a1.kind==12) ((KL a0 a1.server a1.other a1.n).bind λy12=>br (y12.2.1==0) (j28 y12.1.now y12.1.servers y12.1.sides y12.1.master.configs y12.1.master.activated y12.1.masterUp y12.1.lease.epoch y12.1.lease.holder y12.1.lease.ends y12.1.places 11) (j28 y12.1.now y12.1.servers y12.1.sides y12.1.master.configs y12.1.master.activated y12.1.masterUp y12.1.lease.epoch y12.1.lease.holder y12.1.lease.ends y12.1.places 0)) (br (a1.kind==13) ((JI a0 a1.server).bind λy13=>j28 y13.1.now y13.1.servers y13.1.sides y13.1.master.configs y13.1.master.activated y13.1.masterUp y13.1.lease.epoch y13.1.lease.holder y13.1.lease.ends y13.1.places y13.2.1) (br (a1.kind==14) ((IL a0 a1.server).bind λy14=>j28 y14.1.now y14.1.servers y14.1.sides y14.1.master.configs y14.1.master.activated y14.1.masterUp y14.1.lease.epoch y14.1.lease.holder y14.1.lease.ends y14.1.places y14.2.1) (br (a1.kind==15) ((JH a0 a1.server).bind λy15=>j28 y15.1.now y15.1.servers y15.1.sides y15.1.master.configs y15.1.master.activated y15.1.masterUp y15.1.lease.epoch y15.1.lease.holder y15.1.lease.ends y15.1.places y15.2.1) ((KP a0 a1.other a1.n).bind λy16=>j28 y16.1.now y16.1.servers y16.1.sides y16.1.master.configs y16.1.master.activated y16.1.masterUp y16.1.lease.epoch y16.1.lease.holder y16.1.lease.ends y16.1.places y16.2.1)))))))))))))
def ZK[dL] :=FB 273 Tryz.f273 acH P8 (λx=>O1 x.1 x.2.1) [R5,R4,Gn,KR,PL,Vz,TH,Yk,WE,WI,UA,Vy,TK,R2,TJ,VD] [] (by kernel_rfl) λx=>by simp only[O1,tm];kernel_rfl
def NV(a0:qN)(a1:xx):Option (qN×xB×Unit):=
 (Ff a0).bind λy1=>br (!y1.1) ((FS a0).bind λy2=>some (y2.1,(⟨1,(⟨false,0⟩:Result),0⟩:xB),())) ((J8 a1).bind λy3=>br (!y3.1) ((FS a0).bind λy4=>some (y4.1,(⟨1,(⟨false,0⟩:Result),0⟩:xB),())) (br (a1.kind==1) ((NR a0 a1.server a1.op).bind λy5=>some (y5.1,y5.2.1,())) (br (a1.kind==2) ((FS a0).bind λy6=>(MS a0 a1.server a1.n).bind λy7=>some (y6.1,y7.1,())) ((O1 a0 a1).bind λy8=>some (y8.1,(⟨y8.2.1,(⟨false,0⟩:Result),0⟩:xB),())))))
def Yn[dL] :=FB 256 Tryz.f256 acH ac3 (λx=>NV x.1 x.2.1) [Fq,Gn,Uz,Yh,Xq,ZK] [] (by kernel_rfl) λx=>by simp only[NV,tm];kernel_rfl
abbrev Rq:LX:=⟨⟨[(1,.cl (.ro (.st .event))),Pi,QC,acR,Pj],[Na,XJ],ada,0,40⟩,[(.ext 0,⟨[Pi,QC,acR],[Na,XJ],ada,0,40⟩)],[],[1,4,6,7,8],[4,6,7]⟩
def MD(s: (List xx×Unit×Unit×Unit×Int×Unit)×(Nh×Nh×Unit)×List xB×List qQ×List Int×List om×List vB×Unit):Rq.R:=
 br (decide (s.1.2.2.2.2.1< (s.1.1.length:Int))) (br (decide (s.1.2.2.2.2.1<60)) (iteP (0<=s.1.2.2.2.2.1) ((s.1.1[s.1.2.2.2.2.1.toNat]?).bind λx21=>(NV (⟨s.2.1.2.1.1,s.2.2.2.1,s.2.2.2.2.1,(⟨s.2.2.2.2.2.1,s.2.1.2.1.2.2.2.2.1⟩:kB),s.2.1.2.1.2.2.2.2.2.1,(⟨s.2.1.2.1.2.2.2.2.2.2.1,s.2.1.2.1.2.2.2.2.2.2.2.1,s.2.1.2.1.2.2.2.2.2.2.2.2.1⟩:vz),s.2.2.2.2.2.2.1⟩:qN) x21).bind λy22=>iteP ((s.2.2.1++([y22.2.1]:List xB)).length*32<=2 ^ 40) (some (.inl ((s.1.1,(),(),(),(IntKind.wrap .i64 (s.1.2.2.2.2.1+1)),()),(s.2.1.1,(y22.1.now,(),(),(),y22.1.master.activated,y22.1.masterUp,y22.1.lease.epoch,y22.1.lease.holder,y22.1.lease.ends,(),()),()),(s.2.2.1++([y22.2.1]:List xB)),y22.1.servers,y22.1.sides,y22.1.master.configs,y22.1.places,()))) none) none) (some (.inr (((),(),(),()),s.2)))) (some (.inr (((),(),(),()),s.2)))
def VK:=md MD
def V4[dL] :=Ik Tryz.f226 [0] Rq MD [Yn] [] (by kernel_rfl) λs=>by simp only[MD,tm];kernel_rfl
def MU(a0:qN)(a1:List xx):Option (qN×(List xB)×Unit):=
 (FS a0).bind λy1=>(VK ((a1,(),(),(),0,()),((0,(),(),(),0,0,0,0,0,(),()),(y1.1.now,(),(),(),y1.1.master.activated,y1.1.masterUp,y1.1.lease.epoch,y1.1.lease.holder,y1.1.lease.ends,(),()),()),([]:List xB),y1.1.servers,y1.1.sides,y1.1.master.configs,y1.1.places,())).bind λe23=>some ((⟨e23.2.1.2.1.1,e23.2.2.2.1,e23.2.2.2.2.1,(⟨e23.2.2.2.2.2.1,e23.2.1.2.1.2.2.2.2.1⟩:kB),e23.2.1.2.1.2.2.2.2.2.1,(⟨e23.2.1.2.1.2.2.2.2.2.2.1,e23.2.1.2.1.2.2.2.2.2.2.2.1,e23.2.1.2.1.2.2.2.2.2.2.2.2.1⟩:vz),e23.2.2.2.2.2.2.1⟩:qN),e23.2.2.1,())
def Xt[dL] :=FB 226 Tryz.f226 [.ty (.st .cluster),.ty (.ls (.st .event))] [.st .cluster,.ls (.st .reply)] (λx=>MU x.1 x.2.1) [Gn] [V4] (by kernel_rfl) λx=>by simp only[MU,tm];kernel_rfl
def LH[dL](a0:List qO):Option ((List qO)×qN×Unit):=
 (Mj a0).bind λy1=>iteP (y1.1.length=a0.length) ((LC y1.2.1).bind λy2=>(M1 y1.1 14).bind λy3=>iteP (y3.1.length=y1.1.length) ((MU y2.1 y3.2.1).bind λy4=>some (y3.1,y4.1,())) none) none
def WM[dL] :=Ub 146 Tryz.f146 (.st .cur) [] TQ (λl _=>LH l) [UH,WF,XA,Xt] [] (by kernel_rfl) λl x=>by simp only[LH,tm,-eq_self];kernel_rfl
abbrev Sl:LX:=⟨⟨[UR,Y8,Oq],[],ab5,1,17⟩,[(.ext 0,⟨[Y8],[],ab5,1,17⟩)],[],[0,3,4],[3]⟩
def Lr[dL](s:ZO×Unit×List qO×List Int×Unit):Sl.R:=
 br (decide (s.1.2.2.1<5)) ((Fu s.2.2.1 ([0,0,0,1,2]:List Int)).bind λy4=>iteP (y4.1.length=s.2.2.1.length) (iteP ((s.2.2.2.1++([y4.2.1]:List Int)).length*8<=2 ^ 40) (some (.inl (((),(),(IntKind.wrap .i64 (s.1.2.2.1+1)),()),(()),y4.1,(s.2.2.2.1++([y4.2.1]:List Int)),()))) none) none) (some (.inr (((),()),(()),s.2.2)))
def Sb[dL] :=md Lr
def WZ[dL] :=Ik Tryz.f230 [0] Sl Lr [GR] [] (by kernel_rfl) λs=>by simp only[Lr,tm,-eq_self];kernel_rfl
def NW[dL](a0:List qO):Option ((List qO)×(List Int)×Unit):=
 (Sb (((),(),0,()),(()),a0,([]:List Int),())).bind λe5=>some e5.2.2
def Yo[dL] :=Ub 230 Tryz.f230 (.st .cur) [] L5 (λl _=>NW l) [] [WZ] (by kernel_rfl) λl x=>by simp only[NW,tm];kernel_rfl
def Qg[dL](a0:List qO):Option ((List qO)×(List Int)×Unit):=
 (NW a0).bind λy1=>iteP (y1.1.length=a0.length) ((Fh y1.1 12).bind λy2=>iteP (y2.1.length=y1.1.length) (br (y2.2.1==0) (iteP (0<=(1:Int)/\(1:Int)<=(y1.2.1.length:Int)/\(y1.2.1.length:Int)<=((y1.2.1.length:Nat):Int)) (iteP ((0+(1:Int).toNat)=0/\((y1.2.1.length:Int).toNat-(1:Int).toNat)<=y1.2.1.length) (some (y2.1,(y1.2.1.take ((y1.2.1.length:Int).toNat-(1:Int).toNat)),())) (iteP ((0+(1:Int).toNat)+((y1.2.1.length:Int).toNat-(1:Int).toNat)<=y1.2.1.length) (some (y2.1,((y1.2.1.drop (0+(1:Int).toNat)).take ((y1.2.1.length:Int).toNat-(1:Int).toNat)),())) none)) none) (br (y2.2.1==1) ((Fu y2.1 ([(-1),3,4]:List Int)).bind λy3=>iteP (y3.1.length=y2.1.length) (iteP (0<=(1:Int)/\(1:Int)< (y1.2.1.length:Int)) ((y1.2.1[(1:Int).toNat]?).bind λ_=>some (y3.1,(y1.2.1.set ((1:Int).toNat) y3.2.1),())) none) none) (some (y2.1,y1.2.1,())))) none) none
def aaB[dL] :=Ub 147 Tryz.f147 (.st .cur) [] L5 (λl _=>Qg l) [Yo,GI,GR] [] (by kernel_rfl) λl x=>by simp only[Qg,tm,-eq_self];kernel_rfl
abbrev U0:LX:=⟨⟨[UR,Y8,Oq],[],ab5,1,17⟩,[(.ext 0,⟨[Y8],[],ab5,1,17⟩)],[],[0,3,4],[3]⟩
def PC[dL](s:ZO×Unit×List qO×List Int×Unit):U0.R:=
 br (decide (s.1.2.2.1<5)) ((Gz s.2.2.1 2).bind λy4=>iteP (y4.1.length=s.2.2.1.length) (br y4.2.1 (iteP ((s.2.2.2.1++([s.1.2.2.1]:List Int)).length*8<=2 ^ 40) (some (.inl (((),(),(IntKind.wrap .i64 (s.1.2.2.1+1)),()),(()),y4.1,(s.2.2.2.1++([s.1.2.2.1]:List Int)),()))) none) (some (.inl (((),(),(IntKind.wrap .i64 (s.1.2.2.1+1)),()),(()),y4.1,s.2.2.2)))) none) (some (.inr (((),()),(()),s.2.2)))
def Yy[dL] :=md PC
def YL[dL] :=Ik Tryz.f200 [0] U0 PC [Jj] [] (by kernel_rfl) λs=>by simp only[PC,tm,-eq_self];kernel_rfl
def MZ[dL](a0:List qO):Option ((List qO)×(List Int)×Unit):=
 (Yy (((),(),0,()),(()),a0,([]:List Int),())).bind λe6=>some e6.2.2
def Xz[dL] :=Ub 200 Tryz.f200 (.st .cur) [] L5 (λl _=>MZ l) [] [YL] (by kernel_rfl) λl x=>by simp only[MZ,tm];kernel_rfl
def Kd[dL](a0:List qO)(a1:Int):Option ((List qO)×om×Unit):=
 (Fh a0 5).bind λy1=>iteP (y1.1.length=a0.length) ((MZ y1.1).bind λy2=>iteP (y2.1.length=y1.1.length) ((I2 y2.2.1 y1.2.1).bind λy3=>let j9 (p4:List Int):Option ((List qO)×om×Unit):=(Gz y2.1 2).bind λy5=>iteP (y5.1.length=y2.1.length) (br y5.2.1 ((MZ y5.1).bind λy6=>iteP (y6.1.length=y5.1.length) ((Gm y6.2.1 p4).bind λy7=>br (decide ((y7.1.length:Int)>0)) (iteP (0<=(0:Int)/\(0:Int)<=(1:Int)/\(1:Int)<=((y7.1.length:Nat):Int)) (iteP ((0+(0:Int).toNat)=0/\((1:Int).toNat-(0:Int).toNat)<=y7.1.length) (some (y6.1,(⟨a1,y1.2.1,p4,(y7.1.take ((1:Int).toNat-(0:Int).toNat))⟩:om),())) (iteP ((0+(0:Int).toNat)+((1:Int).toNat-(0:Int).toNat)<=y7.1.length) (some (y6.1,(⟨a1,y1.2.1,p4,((y7.1.drop (0+(0:Int).toNat)).take ((1:Int).toNat-(0:Int).toNat))⟩:om),())) none)) none) (some (y6.1,(⟨a1,y1.2.1,p4,([]:List Int)⟩:om),()))) none) (some (y5.1,(⟨a1,y1.2.1,p4,([]:List Int)⟩:om),()))) none;br (decide ((y3.1.length:Int)>3)) (j9 ([y1.2.1]:List Int)) (j9 y3.1)) none) none
def PP[dL] :=Ub 105 Tryz.f105 (.st .cur) WT ab0 (λl x=>Kd l x.1) [GI,Xz,PO,Jj,Mm] [] (by kernel_rfl) λl x=>by simp only[Kd,tm,-eq_self];kernel_rfl
abbrev UY:LX:=⟨⟨[UR,M9,Se,Oq],[ZQ,ac7],[.st .cur,.st .config],1,34⟩,[(.ext 0,⟨[M9,Se],[ZQ,ac7],[.st .cur,.st .config],1,34⟩)],[.b 1 0 (.st .config)],[0,2,3,4],[2,3]⟩
def PA[dL](s:abY×(UW×UW×Unit)×List qO×List om×Unit):UY.R:=
 br (decide (s.1.2.2.2.1>0)) ((Kd s.2.2.1 (IntKind.wrap .i64 ((s.2.2.2.1.length:Int)+1))).bind λy17=>iteP (y17.1.length=s.2.2.1.length) ((Hl (⟨s.2.2.2.1,s.2.1.2.1.2.1⟩:kB) y17.2.1).bind λy18=>(Gz y17.1 2).bind λy19=>iteP (y19.1.length=y17.1.length) (br y19.2.1 ((Ga y18.1 (y18.1.configs.length:Int)).bind λy20=>some (.inl (((),(),(),(IntKind.wrap .i64 (s.1.2.2.2.1-1)),()),(s.2.1.1,((),y20.1.activated,()),()),y19.1,y20.1.configs,()))) (some (.inl (((),(),(),(IntKind.wrap .i64 (s.1.2.2.2.1-1)),()),(s.2.1.1,((),y18.1.activated,()),()),y19.1,y18.1.configs,())))) none) none) (some (.inr (((),(),()),s.2)))
def Yw[dL] :=md PA
def YJ[dL] :=Ik Tryz.f231 [0] UY PA [PP,PY,Jj,O4] [] (by kernel_rfl) λs=>by simp only[PA,tm,-eq_self];kernel_rfl
def Qc[dL](a0:List qO):Option ((List qO)×kB×Unit):=
 (Fh a0 5).bind λy1=>iteP (y1.1.length=a0.length) ((Yw (((),(),(),y1.2.1,()),(((),0,()),((),0,()),()),y1.1,([]:List om),())).bind λe23=>some (e23.2.2.1,(⟨e23.2.2.2.1,e23.2.1.2.1.2.1⟩:kB),())) none
def aax[dL] :=Ub 231 Tryz.f231 (.st .cur) [] ab1 (λl _=>Qc l) [GI] [YJ] (by kernel_rfl) λl x=>by simp only[Qc,tm,-eq_self];kernel_rfl
def QY[dL](a0:List qO):Option ((List qO)×(List Int)×Unit):=
 (MZ a0).bind λy1=>iteP (y1.1.length=a0.length) ((Gz y1.1 8).bind λy2=>iteP (y2.1.length=y1.1.length) (br y2.2.1 ((Fu y2.1 ([(-1),0,4,5]:List Int)).bind λy3=>iteP (y3.1.length=y2.1.length) (iteP ((y1.2.1++([y3.2.1]:List Int)).length*8<=2 ^ 40) (some (y3.1,(y1.2.1++([y3.2.1]:List Int)),())) none) none) (some (y2.1,y1.2.1,()))) none) none
def abR[dL] :=Ub 251 Tryz.f251 (.st .cur) [] L5 (λl _=>QY l) [Xz,Jj,GR] [] (by kernel_rfl) λl x=>by simp only[QY,tm,-eq_self];kernel_rfl
def PG[dL](a0:List qO):Option ((List qO)×om×Unit):=
 (Fh a0 4).bind λy1=>iteP (y1.1.length=a0.length) ((Kd y1.1 (IntKind.wrap .i64 (1+y1.2.1))).bind λy2=>iteP (y2.1.length=y1.1.length) ((Fh y2.1 14).bind λy3=>iteP (y3.1.length=y2.1.length) (br (y3.2.1==0) ((Fu y3.1 ([0,20,21]:List Int)).bind λy4=>iteP (y4.1.length=y3.1.length) (some (y4.1,(⟨y4.2.1,y2.2.1.primary,y2.2.1.replicas,y2.2.1.witnesses⟩:om),())) none) (br (y3.2.1==1) ((Fh y3.1 7).bind λy5=>iteP (y5.1.length=y3.1.length) (some (y5.1,(⟨y2.2.1.epoch,(IntKind.wrap .i64 (y5.2.1-1)),y2.2.1.replicas,y2.2.1.witnesses⟩:om),())) none) (br (y3.2.1==2) ((QY y3.1).bind λy6=>iteP (y6.1.length=y3.1.length) (some (y6.1,(⟨y2.2.1.epoch,y2.2.1.primary,y6.2.1,y2.2.1.witnesses⟩:om),())) none) (br (y3.2.1==3) ((QY y3.1).bind λy7=>iteP (y7.1.length=y3.1.length) (some (y7.1,(⟨y2.2.1.epoch,y2.2.1.primary,y2.2.1.replicas,y7.2.1⟩:om),())) none) (some (y3.1,y2.2.1,())))))) none) none) none
def WO[dL] :=Ub 214 Tryz.f214 (.st .cur) [] ab0 (λl _=>PG l) [GI,PP,GR,abR] [] (by kernel_rfl) λl x=>by simp only[PG,tm,-eq_self];kernel_rfl
def Qb[dL](a0:List qO):Option ((List qO)×kB×Unit):=
 (Qc a0).bind λy1=>iteP (y1.1.length=a0.length) ((Fh y1.1 14).bind λy2=>iteP (y2.1.length=y1.1.length) (br (y2.2.1==0) ((Fu y2.1 ([(-1),0,3,6]:List Int)).bind λy3=>iteP (y3.1.length=y2.1.length) (some (y3.1,(⟨y1.2.1.configs,y3.2.1⟩:kB),())) none) (br (y2.2.1==1) ((PG y2.1).bind λy4=>iteP (y4.1.length=y2.1.length) (iteP ((y1.2.1.configs++([y4.2.1]:List om)).length*64<=2 ^ 40) (some (y4.1,(⟨(y1.2.1.configs++([y4.2.1]:List om)),y1.2.1.activated⟩:kB),())) none) none) (some (y2.1,y1.2.1,())))) none) none
def aaw[dL] :=Ub 148 Tryz.f148 (.st .cur) [] ab1 (λl _=>Qb l) [aax,GI,GR,WO] [] (by kernel_rfl) λl x=>by simp only[Qb,tm,-eq_self];kernel_rfl
def Qd[dL](a0:List qO):Option ((List qO)×vz×Unit):=
 (Gz a0 4).bind λy1=>iteP (y1.1.length=a0.length) (let j17 (p5:List qO) (p6:Int) (p7:Int) (p8:Int):Option ((List qO)×vz×Unit):=(Fh p5 14).bind λy9=>iteP (y9.1.length=p5.length) (br (y9.2.1==0) ((Fu y9.1 ([0,20,21]:List Int)).bind λy10=>iteP (y10.1.length=y9.1.length) (some (y10.1,(⟨y10.2.1,p7,p8⟩:vz),())) none) (br (y9.2.1==1) ((Fu y9.1 ([(-1),4,5]:List Int)).bind λy11=>iteP (y11.1.length=y9.1.length) (some (y11.1,(⟨p6,y11.2.1,p8⟩:vz),())) none) (br (y9.2.1==2) ((Fu y9.1 ([(-1),0,1049,1050]:List Int)).bind λy12=>iteP (y12.1.length=y9.1.length) (some (y12.1,(⟨p6,p7,y12.2.1⟩:vz),())) none) (some (y9.1,(⟨p6,p7,p8⟩:vz),()))))) none;br (!y1.2.1) ((Fh y1.1 3).bind λy2=>iteP (y2.1.length=y1.1.length) ((Fh y2.1 3).bind λy3=>iteP (y3.1.length=y2.1.length) ((Fh y3.1 20).bind λy4=>iteP (y4.1.length=y3.1.length) (j17 y4.1 (IntKind.wrap .i64 (1+y2.2.1)) y3.2.1 (IntKind.wrap .i64 (1+y4.2.1))) none) none) none) (j17 y1.1 0 0 0)) none
def aay[dL] :=Ub 149 Tryz.f149 (.st .cur) [] [.st .lease] (λl _=>Qd l) [Jj,GI,GR] [] (by kernel_rfl) λl x=>by simp only[Qd,tm,-eq_self];kernel_rfl
def RV[dL](a0:List qO):Option ((List qO)×(List vB)×Unit):=
 (Mj a0).bind λy1=>iteP (y1.1.length=a0.length) ((Fh y1.1 14).bind λy2=>iteP (y2.1.length=y1.1.length) (br (y2.2.1==0) (iteP (0<=(1:Int)/\(1:Int)<=(y1.2.1.length:Int)/\(y1.2.1.length:Int)<=((y1.2.1.length:Nat):Int)) (iteP ((0+(1:Int).toNat)=0/\((y1.2.1.length:Int).toNat-(1:Int).toNat)<=y1.2.1.length) (some (y2.1,(y1.2.1.take ((y1.2.1.length:Int).toNat-(1:Int).toNat)),())) (iteP ((0+(1:Int).toNat)+((y1.2.1.length:Int).toNat-(1:Int).toNat)<=y1.2.1.length) (some (y2.1,((y1.2.1.drop (0+(1:Int).toNat)).take ((y1.2.1.length:Int).toNat-(1:Int).toNat)),())) none)) none) (br (y2.2.1==1) ((Fu y2.1 ([(-1),9,10]:List Int)).bind λy3=>iteP (y3.1.length=y2.1.length) (iteP (0<=(0:Int)/\(0:Int)< (y1.2.1.length:Int)) ((y1.2.1[(0:Int).toNat]?).bind λx4=>some (y3.1,(y1.2.1.set ((0:Int).toNat) (⟨y3.2.1,x4.capacity,x4.load⟩:vB)),())) none) none) (br (y2.2.1==2) ((Fu y2.1 ([(-1),99,100]:List Int)).bind λy6=>iteP (y6.1.length=y2.1.length) (iteP (0<=(1:Int)/\(1:Int)< (y1.2.1.length:Int)) ((y1.2.1[(1:Int).toNat]?).bind λx7=>some (y6.1,(y1.2.1.set ((1:Int).toNat) (⟨x7.rack,x7.capacity,y6.2.1⟩:vB)),())) none) none) (some (y2.1,y1.2.1,()))))) none) none
def abV[dL] :=Ub 150 Tryz.f150 (.st .cur) [] [.ls (.st .place)] (λl _=>RV l) [UH,GI,GR] [] (by kernel_rfl) λl x=>by simp only[RV,tm,-eq_self];kernel_rfl
abbrev Wl:LX:=⟨⟨[UR,Y9,Oq,Ob],[],Zi,1,27⟩,[(.ext 0,⟨[Y9],[],Zi,1,27⟩)],[],[0,3,4,5],[3]⟩
def OU[dL](s: (Unit×Unit×Int×Int×Unit)×Unit×List qO×List sf×Unit):Wl.R:=
 br (decide (s.1.2.2.2.1>0)) ((Gz s.2.2.1 3).bind λy6=>iteP (y6.1.length=s.2.2.1.length) (br y6.2.1 ((OG y6.1).bind λy9=>iteP (y9.1.length=y6.1.length) (iteP ((s.2.2.2.1++([(⟨(IntKind.wrap .i64 (s.1.2.2.1+1)),y9.2.1⟩:sf)]:List sf)).length*56<=2 ^ 40) (some (.inl (((),(),(IntKind.wrap .i64 (s.1.2.2.1+1)),(IntKind.wrap .i64 (s.1.2.2.2.1-1)),()),(()),y9.1,(s.2.2.2.1++([(⟨(IntKind.wrap .i64 (s.1.2.2.1+1)),y9.2.1⟩:sf)]:List sf)),()))) none) none) ((OG y6.1).bind λy10=>iteP (y10.1.length=y6.1.length) (iteP ((s.2.2.2.1++([(⟨s.1.2.2.1,y10.2.1⟩:sf)]:List sf)).length*56<=2 ^ 40) (some (.inl (((),(),s.1.2.2.1,(IntKind.wrap .i64 (s.1.2.2.2.1-1)),()),(()),y10.1,(s.2.2.2.1++([(⟨s.1.2.2.1,y10.2.1⟩:sf)]:List sf)),()))) none) none)) none) (some (.inr (((),()),(()),s.2.2)))
def Wd[dL] :=md OU
def ZZ[dL] :=Ik Tryz.f260 [0] Wl OU [Jj,WN] [] (by kernel_rfl) λs=>by simp only[OU,tm,-eq_self];kernel_rfl
def QZ[dL](a0:List qO):Option ((List qO)×(List sf)×Unit):=
 (Fh a0 7).bind λy1=>iteP (y1.1.length=a0.length) ((Wd (((),(),1,y1.2.1,()),(()),y1.1,([]:List sf),())).bind λe14=>some e14.2.2) none
def Y0[dL] :=Ub 260 Tryz.f260 (.st .cur) [] VO (λl _=>QZ l) [GI] [ZZ] (by kernel_rfl) λl x=>by simp only[QZ,tm,-eq_self];kernel_rfl
abbrev UZ:LX:=⟨⟨[QB,LW,Ob],[],[],0,25⟩,[(.ext 0,⟨[QB,Ob],[],[],0,25⟩)],[],[0,1,5],[0,5]⟩
def PB(s: (List sf×Int×Int×Unit)×Unit×Unit):UZ.R:=
 br (decide (s.1.2.2.1< (s.1.1.length:Int))) (iteP (0<=s.1.2.2.1) ((s.1.1[s.1.2.2.1.toNat]?).bind λx4=>br (decide (x4.epoch<=s.1.2.1)) (some (.inl ((s.1.1,s.1.2.1,(IntKind.wrap .i64 (s.1.2.2.1+1)),()),(()),(())))) (some (.inr ((s.1.1,s.1.2.2),(()),(()))))) none) (some (.inr ((s.1.1,s.1.2.2),(()),(()))))
def Yx:=md PB
def YK[dL] :=Ik Tryz.f259 [0] UZ PB [] [] (by kernel_rfl) λs=>by simp only[PB,tm];kernel_rfl
def Qf(a0:List sf)(a1:Int):Option ((List sf)×Unit):=
 (Yx ((a0,a1,0,()),(()),(()))).bind λe5=>iteP (0<=(0:Int)/\(0:Int)<=e5.1.2.1/\e5.1.2.1<=(e5.1.1.length:Int)) ((GM ((e5.1.1.drop (0:Int).toNat).take (e5.1.2.1.toNat-(0:Int).toNat))).bind λy6=>some (y6.1,())) none
def aaA[dL] :=FB 259 Tryz.f259 aaK VO (λx=>Qf x.1 x.2.1) [KS] [YK] (by kernel_rfl) λx=>by simp only[Qf,tm];kernel_rfl
def MX[dL](a0:List qO):Option ((List qO)×qQ×Int×Unit):=
 (Fh a0 2).bind λy1=>iteP (y1.1.length=a0.length) ((Lj (IntKind.wrap .i64 (1+y1.2.1))).bind λy2=>(Fh y1.1 3).bind λy3=>iteP (y3.1.length=y1.1.length) ((Kd y3.1 (IntKind.wrap .i64 (1+y3.2.1))).bind λy4=>iteP (y4.1.length=y3.1.length) ((FV y4.2.1).bind λy5=>(Fh y4.1 (y5.1.length:Int)).bind λy6=>iteP (y6.1.length=y4.1.length) (iteP (0<=y6.2.1/\y6.2.1< (y5.1.length:Int)) ((y5.1[y6.2.1.toNat]?).bind λx7=>(Gz y6.1 5).bind λy8=>iteP (y8.1.length=y6.1.length) (br (!y8.2.1) ((QZ y8.1).bind λy9=>iteP (y9.1.length=y8.1.length) ((Qf y9.2.1 y4.2.1.epoch).bind λy10=>(Gj y2.1 y4.2.1 x7 y10.1).bind λy11=>(Gz y9.1 4).bind λy44=>iteP (y44.1.length=y9.1.length) (let j62 (p45:Bool):Option ((List qO)×qQ×Int×Unit):=(Gz y44.1 4).bind λy46=>iteP (y46.1.length=y44.1.length) (br y46.2.1 ((Fh y46.1 3).bind λy47=>iteP (y47.1.length=y46.1.length) ((HE (⟨p45,y11.1.intact,y11.1.version,y11.1.epoch,y11.1.config,y11.1.first,y11.1.log,y11.1.commit,y11.1.learned⟩:qQ) (IntKind.wrap .i64 (4+y47.2.1))).bind λy48=>some (y47.1,y48.1,x7,())) none) (some (y46.1,(⟨p45,y11.1.intact,y11.1.version,y11.1.epoch,y11.1.config,y11.1.first,y11.1.log,y11.1.commit,y11.1.learned⟩:qQ),x7,()))) none;br y44.2.1 (j62 false) (j62 y11.1.up)) none) none) ((Gz y8.1 4).bind λy63=>iteP (y63.1.length=y8.1.length) (let j81 (p64:Bool):Option ((List qO)×qQ×Int×Unit):=(Gz y63.1 4).bind λy65=>iteP (y65.1.length=y63.1.length) (br y65.2.1 ((Fh y65.1 3).bind λy66=>iteP (y66.1.length=y65.1.length) ((HE (⟨p64,y2.1.intact,y2.1.version,y2.1.epoch,y2.1.config,y2.1.first,y2.1.log,y2.1.commit,y2.1.learned⟩:qQ) (IntKind.wrap .i64 (4+y66.2.1))).bind λy67=>some (y66.1,y67.1,x7,())) none) (some (y65.1,(⟨p64,y2.1.intact,y2.1.version,y2.1.epoch,y2.1.config,y2.1.first,y2.1.log,y2.1.commit,y2.1.learned⟩:qQ),x7,()))) none;br y63.2.1 (j81 false) (j81 y2.1.up)) none)) none) none) none) none) none) none
def Xw[dL] :=Ub 232 Tryz.f232 (.st .cur) [] [.st .server,.i .i64] (λl _=>MX l) [GI,Te,PP,Jo,Jj,Y0,aaA,PV,R6] [] (by kernel_rfl) λl x=>by simp only[MX,tm,-eq_self];kernel_rfl
def RT[dL](a0:List qO):Option ((List qO)×Op×Unit):=
 (OG a0).bind λy1=>iteP (y1.1.length=a0.length) ((Fh y1.1 14).bind λy2=>iteP (y2.1.length=y1.1.length) (br (y2.2.1==0) ((Fu y2.1 ([(-1),2,3]:List Int)).bind λy3=>iteP (y3.1.length=y2.1.length) (some (y3.1,(⟨y3.2.1,y1.2.1.seq,y1.2.1.kind,y1.2.1.object,y1.2.1.old,y1.2.1.value⟩:Op),())) none) (br (y2.2.1==1) ((Fu y2.1 ([0,99,100]:List Int)).bind λy4=>iteP (y4.1.length=y2.1.length) (some (y4.1,(⟨y1.2.1.client,y4.2.1,y1.2.1.kind,y1.2.1.object,y1.2.1.old,y1.2.1.value⟩:Op),())) none) (br (y2.2.1==2) ((Fh y2.1 4).bind λy5=>iteP (y5.1.length=y2.1.length) (some (y5.1,(⟨y1.2.1.client,y1.2.1.seq,y5.2.1,y1.2.1.object,y1.2.1.old,y1.2.1.value⟩:Op),())) none) (br (y2.2.1==3) ((Fu y2.1 ([(-1),3]:List Int)).bind λy6=>iteP (y6.1.length=y2.1.length) (some (y6.1,(⟨y1.2.1.client,y1.2.1.seq,y1.2.1.kind,y6.2.1,y1.2.1.old,y1.2.1.value⟩:Op),())) none) (br (y2.2.1==4) ((Fu y2.1 ([(-1),9,10]:List Int)).bind λy7=>iteP (y7.1.length=y2.1.length) (some (y7.1,(⟨y1.2.1.client,y1.2.1.seq,y1.2.1.kind,y1.2.1.object,y1.2.1.old,y7.2.1⟩:Op),())) none) (br (y2.2.1==5) ((Fu y2.1 ([(-1),0,9,10]:List Int)).bind λy8=>iteP (y8.1.length=y2.1.length) (some (y8.1,(⟨y1.2.1.client,y1.2.1.seq,y1.2.1.kind,y1.2.1.object,y8.2.1,y1.2.1.value⟩:Op),())) none) (some (y2.1,y1.2.1,())))))))) none) none
def abT[dL] :=Ub 131 Tryz.f131 (.st .cur) [] [.st .op] (λl _=>RT l) [WN,GI,GR] [] (by kernel_rfl) λl x=>by simp only[RT,tm,-eq_self];kernel_rfl
abbrev Wk:LX:=⟨⟨[UR,Y9],[],Zi,1,33⟩,[(.ext 1,⟨[Y9],[],Zi,1,33⟩)],[],[0,3],[3]⟩
def NJ[dL](s:aaZ×Unit×List qO×List sf×Unit):Wk.R:=
 br (decide ((s.2.2.2.1.length:Int)<17)) ((OG s.2.2.1).bind λy7=>iteP (y7.1.length=s.2.2.1.length) (iteP ((s.2.2.2.1++([(⟨20,y7.2.1⟩:sf)]:List sf)).length*56<=2 ^ 40) (some (.inl (((),(),()),(()),y7.1,(s.2.2.2.1++([(⟨20,y7.2.1⟩:sf)]:List sf)),()))) none) none) (some (.inr (((),()),(()),s.2.2)))
def Wc[dL] :=md NJ
def ZY[dL] :=Ik Tryz.f233 [0] Wk NJ [WN] [] (by kernel_rfl) λs=>by simp only[NJ,tm,-eq_self];kernel_rfl
def RU[dL](a0:List qO):Option ((List qO)×(List sf)×Unit):=
 (QZ a0).bind λy1=>iteP (y1.1.length=a0.length) ((Fh y1.1 14).bind λy2=>iteP (y2.1.length=y1.1.length) (br (y2.2.1==0) ((Fu y2.1 ([0,1,20,21]:List Int)).bind λy3=>iteP (y3.1.length=y2.1.length) ((RT y3.1).bind λy4=>iteP (y4.1.length=y3.1.length) (iteP ((y1.2.1++([(⟨y3.2.1,y4.2.1⟩:sf)]:List sf)).length*56<=2 ^ 40) (some (y4.1,(y1.2.1++([(⟨y3.2.1,y4.2.1⟩:sf)]:List sf)),())) none) none) none) (br (y2.2.1==1) ((Wc (((),(),()),(()),y2.1,y1.2.1,())).bind λe8=>some e8.2.2) (some (y2.1,y1.2.1,())))) none) none
def abU[dL] :=Ub 233 Tryz.f233 (.st .cur) [] VO (λl _=>RU l) [Y0,GI,GR,abT] [ZY] (by kernel_rfl) λl x=>by simp only[RU,tm,-eq_self];kernel_rfl
def Qe[dL](a0:List qO):Option ((List qO)×qQ×Int×Unit):=
 (MX a0).bind λy1=>iteP (y1.1.length=a0.length) ((Fh y1.1 16).bind λy2=>iteP (y2.1.length=y1.1.length) (let j21 (p10:List qO) (p11:Int) (p12:Int) (p13:Int) (p14:Int) (p15:List Int) (p16:List Int) (p17:Int) (p18:List sf) (p19:Int) (p20:Int):Option ((List qO)×qQ×Int×Unit):=some (p10,(⟨y1.2.1.up,y1.2.1.intact,p11,p12,(⟨p13,p14,p15,p16⟩:om),p17,p18,p19,y1.2.1.learned⟩:qQ),p20,());br (y2.2.1==0) ((Fu y2.1 ([0,1,3]:List Int)).bind λy3=>iteP (y3.1.length=y2.1.length) (j21 y3.1 y3.2.1 y1.2.1.epoch y1.2.1.config.epoch y1.2.1.config.primary y1.2.1.config.replicas y1.2.1.config.witnesses y1.2.1.first y1.2.1.log y1.2.1.commit y1.2.2.1) none) (br (y2.2.1==1) ((Fu y2.1 ([(-1),0,20,21]:List Int)).bind λy4=>iteP (y4.1.length=y2.1.length) (j21 y4.1 y1.2.1.version y4.2.1 y1.2.1.config.epoch y1.2.1.config.primary y1.2.1.config.replicas y1.2.1.config.witnesses y1.2.1.first y1.2.1.log y1.2.1.commit y1.2.2.1) none) (br (y2.2.1==2) ((PG y2.1).bind λy5=>iteP (y5.1.length=y2.1.length) (j21 y5.1 y1.2.1.version y1.2.1.epoch y5.2.1.epoch y5.2.1.primary y5.2.1.replicas y5.2.1.witnesses y1.2.1.first y1.2.1.log y1.2.1.commit y1.2.2.1) none) (br (y2.2.1==3) ((Fu y2.1 ([(-1),0,2,17]:List Int)).bind λy6=>iteP (y6.1.length=y2.1.length) (j21 y6.1 y1.2.1.version y1.2.1.epoch y1.2.1.config.epoch y1.2.1.config.primary y1.2.1.config.replicas y1.2.1.config.witnesses y1.2.1.first y1.2.1.log y6.2.1 y1.2.2.1) none) (br (y2.2.1==4) ((Fu y2.1 ([(-1),0,2,9223372036854775807]:List Int)).bind λy7=>iteP (y7.1.length=y2.1.length) (j21 y7.1 y1.2.1.version y1.2.1.epoch y1.2.1.config.epoch y1.2.1.config.primary y1.2.1.config.replicas y1.2.1.config.witnesses y7.2.1 y1.2.1.log y1.2.1.commit y1.2.2.1) none) (br (y2.2.1==5) ((Fh y2.1 7).bind λy8=>iteP (y8.1.length=y2.1.length) (j21 y8.1 y1.2.1.version y1.2.1.epoch y1.2.1.config.epoch y1.2.1.config.primary y1.2.1.config.replicas y1.2.1.config.witnesses y1.2.1.first y1.2.1.log y1.2.1.commit (IntKind.wrap .i64 (y8.2.1-1))) none) (br (y2.2.1==6) ((RU y2.1).bind λy9=>iteP (y9.1.length=y2.1.length) (j21 y9.1 y1.2.1.version y1.2.1.epoch y1.2.1.config.epoch y1.2.1.config.primary y1.2.1.config.replicas y1.2.1.config.witnesses y1.2.1.first y9.2.1 y1.2.1.commit y1.2.2.1) none) (j21 y2.1 y1.2.1.version y1.2.1.epoch y1.2.1.config.epoch y1.2.1.config.primary y1.2.1.config.replicas y1.2.1.config.witnesses y1.2.1.first y1.2.1.log y1.2.1.commit y1.2.2.1)))))))) none) none
def aaz[dL] :=Ub 151 Tryz.f151 (.st .cur) [] [.st .server,.i .i64] (λl _=>Qe l) [Xw,GI,GR,WO,abU] [] (by kernel_rfl) λl x=>by simp only[Qe,tm,-eq_self];kernel_rfl
def OZ[dL](a0:List qO):Option ((List qO)×qN×Unit):=
 (LH a0).bind λy1=>iteP (y1.1.length=a0.length) ((Fh y1.1 20).bind λy2=>iteP (y2.1.length=y1.1.length) (br (y2.2.1==0) ((Fu y2.1 ([(-1),998,999,1000]:List Int)).bind λy3=>iteP (y3.1.length=y2.1.length) (some (y3.1,(⟨y3.2.1,y1.2.1.servers,y1.2.1.sides,y1.2.1.master,y1.2.1.masterUp,y1.2.1.lease,y1.2.1.places⟩:qN),())) none) (br (y2.2.1==1) ((Qg y2.1).bind λy4=>iteP (y4.1.length=y2.1.length) (some (y4.1,(⟨y1.2.1.now,y1.2.1.servers,y4.2.1,y1.2.1.master,y1.2.1.masterUp,y1.2.1.lease,y1.2.1.places⟩:qN),())) none) (br (y2.2.1==2) ((Qb y2.1).bind λy5=>iteP (y5.1.length=y2.1.length) (some (y5.1,(⟨y1.2.1.now,y1.2.1.servers,y1.2.1.sides,y5.2.1,y1.2.1.masterUp,y1.2.1.lease,y1.2.1.places⟩:qN),())) none) (br (y2.2.1==3) ((Fu y2.1 ([(-1),3,4]:List Int)).bind λy6=>iteP (y6.1.length=y2.1.length) (some (y6.1,(⟨y1.2.1.now,y1.2.1.servers,y1.2.1.sides,y1.2.1.master,y6.2.1,y1.2.1.lease,y1.2.1.places⟩:qN),())) none) (br (y2.2.1==4) ((Qd y2.1).bind λy7=>iteP (y7.1.length=y2.1.length) (some (y7.1,(⟨y1.2.1.now,y1.2.1.servers,y1.2.1.sides,y1.2.1.master,y1.2.1.masterUp,y7.2.1,y1.2.1.places⟩:qN),())) none) (br (y2.2.1==5) ((RV y2.1).bind λy8=>iteP (y8.1.length=y2.1.length) (some (y8.1,(⟨y1.2.1.now,y1.2.1.servers,y1.2.1.sides,y1.2.1.master,y1.2.1.masterUp,y1.2.1.lease,y8.2.1⟩:qN),())) none) (br (y2.2.1==6) ((Qe y2.1).bind λy9=>iteP (y9.1.length=y2.1.length) ((Fh y9.1 5).bind λy10=>iteP (y10.1.length=y9.1.length) (iteP (0<=y10.2.1/\y10.2.1< (y1.2.1.servers.length:Int)) ((y1.2.1.servers[y10.2.1.toNat]?).bind λ_=>some (y10.1,(⟨y1.2.1.now,(y1.2.1.servers.set y10.2.1.toNat y9.2.1),y1.2.1.sides,y1.2.1.master,y1.2.1.masterUp,y1.2.1.lease,y1.2.1.places⟩:qN),())) none) none) none) (some (y2.1,y1.2.1,()))))))))) none) none
def Xx[dL] :=Ub 46 Tryz.f46 (.st .cur) [] TQ (λl _=>OZ l) [WM,GI,GR,aaB,aaw,aay,abV,aaz] [] (by kernel_rfl) λl x=>by simp only[OZ,tm,-eq_self];kernel_rfl
def J7[dL](a0:Hd):Option (qN×Unit):=
 (Uc a0).bind λy1=>(OZ y1.1).bind λy2=>iteP (y2.1.length=y1.1.length) ((Gz y2.1 2).bind λy3=>iteP (y3.1.length=y2.1.length) (br y3.2.1 ((Kd y3.1 (IntKind.wrap .i64 ((y2.2.1.master.configs.length:Int)+1))).bind λy4=>iteP (y4.1.length=y3.1.length) ((GX y2.2.1 y4.2.1).bind λy5=>some (y5.1,())) none) (some (y2.2.1,()))) none) none
def Ux[dL] :=FB 32 Tryz.f32 [.ty (.h)] TQ (λx=>J7 x.1) [YZ,Xx,Jj,PP,KR] [] (by kernel_rfl) λx=>by simp only[J7,tm,-eq_self];kernel_rfl
def Fs(a0:Int)(a1:Int)(a2:Int):Option (Bool×Unit):=
 br (decide (a1<=a0)) (some ((decide (a0<=a2)),())) (some (false,()))
def Hh[dL] :=FB 50 Tryz.f50 aaH [.b] (λx=>Fs x.1 x.2.1 x.2.2.1) [] [] (by kernel_rfl) λx=>by simp only[Fs,tm];kernel_rfl
abbrev QD:LX:=⟨⟨[Pk,(5,.cl (.ro (.i .i64))),OA,Ot],[],[],0,29⟩,[(.ret,⟨[Oz],[],[],0,29⟩),(.ext 0,⟨[Nr],[],[],0,29⟩)],[],[0,5,6,7],[2]⟩
def G9(s:ac1×Unit×Unit):QD.R:=
 br (decide (s.1.2.2.2.1<s.1.2.2.1)) (iteP (0<=s.1.2.2.2.1) ((s.1.2.1[s.1.2.2.2.1.toNat]?).bind λx5=>(Fs x5 0 4).bind λy6=>br (!y6.1) (some (.inr (.inl ((false,()),(()),(()))))) (br (decide (s.1.2.2.2.1>0)) (iteP (0<=(IntKind.wrap .i64 (s.1.2.2.2.1-1))) ((s.1.1[(IntKind.wrap .i64 (s.1.2.2.2.1-1)).toNat]?).bind λx7=>br (decide (x5<=x7)) (some (.inr (.inl ((false,()),(()),(()))))) (some (.inl ((s.1.1,s.1.2.1,s.1.2.2.1,(IntKind.wrap .i64 (s.1.2.2.2.1+1)),()),(()),(()))))) none) (some (.inl ((s.1.1,s.1.2.1,s.1.2.2.1,(IntKind.wrap .i64 (s.1.2.2.2.1+1)),()),(()),(())))))) none) (some (.inr (.inr (((),()),(()),(())))))
def LQ:=md G9
def U2[dL] :=Ik Tryz.f92 [0] QD G9 [Hh] [] (by kernel_rfl) λs=>by simp only[G9,tm];kernel_rfl
def HX(a0:List Int):Option (Bool×Unit):=
 (LQ ((a0,a0,(a0.length:Int),0,()),(()),(()))).bind λe8=>Sum.elim (λe8_0=>some e8_0.1) (λ_=>some (true,())) e8
def Ws[dL] :=FB 92 Tryz.f92 Yz [.b] (λx=>HX x.1) [] [U2] (by kernel_rfl) λx=>by simp only[HX,tm];kernel_rfl
abbrev QR:LX:=⟨⟨[Pk,LW,Ot,Pj],[],[],0,19⟩,[(.ret,⟨[Oq],[],[],0,19⟩),(.ext 0,⟨[Ph],[],[],0,19⟩)],[],[0,1,7,8],[4]⟩
def I8(s: (List Int×Int×Int×Int×Unit)×Unit×Unit):QR.R:=
 br (decide (s.1.2.2.2.1<s.1.2.2.1)) (iteP (0<=s.1.2.2.2.1) ((s.1.1[s.1.2.2.2.1.toNat]?).bind λx5=>br (s.1.2.1==x5) (some (.inr (.inl (s.1.2.2.2,(()),(()))))) (some (.inl ((s.1.1,s.1.2.1,s.1.2.2.1,(IntKind.wrap .i64 (s.1.2.2.2.1+1)),()),(()),(()))))) none) (some (.inr (.inr (((),()),(()),(())))))
def N9:=md I8
def Vg[dL] :=Ik Tryz.f240 [0] QR I8 [] [] (by kernel_rfl) λs=>by simp only[I8,tm];kernel_rfl
def Nz(a0:List Int)(a1:Int):Option (Int×Unit):=
 (N9 ((a0,a1,(a0.length:Int),0,()),(()),(()))).bind λe6=>Sum.elim (λe6_0=>some e6_0.1) (λ_=>some ((-1),())) e6
def WP[dL] :=FB 240 Tryz.f240 XD Kk (λx=>Nz x.1 x.2.1) [] [Vg] (by kernel_rfl) λx=>by simp only[Nz,tm];kernel_rfl
def K4(a0:List Int)(a1:Int):Option (Bool×Unit):=
 (Nz a0 a1).bind λy1=>some ((decide (y1.1≥0)),())
def TM[dL] :=FB 183 Tryz.f183 XD [.b] (λx=>K4 x.1 x.2.1) [WP] [] (by kernel_rfl) λx=>by simp only[K4,tm];kernel_rfl
def IH(a0:List Int)(a1:Int):Option (Bool×Unit):=
 (K4 a0 a1).bind λy1=>some (y1.1,())
def Ow[dL] :=FB 81 Tryz.f81 XD [.b] (λx=>IH x.1 x.2.1) [TM] [] (by kernel_rfl) λx=>by simp only[IH,tm];kernel_rfl
def Jy(a0:List Int):Option ((List Int)×Unit):=iteP (a0.length*8<=2 ^ 40) (some (a0,())) none
def R7[dL] :=coC 78 Tryz.f78 (.i .i64) 8 Jy (by kernel_rfl) (λ_=>rfl) λ_=>by kernel_rfl
def Rv(a0:Int):Option (Int×Unit):=
 br (decide (a0≥4294967296)) (none) (br (decide (a0≥65536)) (none) (br (decide (a0≥256)) (none) (iteP (0<=(IntKind.wrap .u8 a0)) ((sb0[(IntKind.wrap .u8 a0).toNat]?).bind λx1=>some ((IntKind.wrap .i64 (0+(IntKind.wrap .i64 (x1.toNat:Int)))),())) none)))
def Ya[dL] :=FB 284 Tryz.f284 [.ty (.i .u64)] Kk (λx=>Rv x.1) [] [] (by kernel_rfl) λx=>by simp only[Rv,tm];kernel_rfl
def Qa(a0:Int):Option (Int×Unit):=
 (Rv a0).bind λy1=>some (y1.1,())
def aau[dL] :=FB 264 Tryz.f264 [.ty (.i .u64)] Kk (λx=>Qa x.1) [Ya] [] (by kernel_rfl) λx=>by simp only[Qa,tm];kernel_rfl
def JQ(a0:Int):Option (Bool×Unit):=
 some ((!(a0==a0)),())
def Vn[dL] :=FB 304 Tryz.f304 WT [.b] (λx=>JQ x.1) [] [] (by kernel_rfl) λx=>by simp only[JQ,tm];kernel_rfl
def Jt(a0:Int)(a1:Int):Option (Bool×Unit):=
 (JQ a0).bind λy1=>br y1.1 ((JQ a1).bind λy2=>br (!y2.1) (some (true,())) (some ((decide (a0<a1)),()))) (some ((decide (a0<a1)),()))
def Wr[dL] :=FB 280 Tryz.f280 acI [.b] (λx=>Jt x.1 x.2.1) [Vn] [] (by kernel_rfl) λx=>by simp only[Jt,tm];kernel_rfl
abbrev IQ:LX:=⟨⟨[QA,LW,Re,OA,Ot],[],JA,1,49⟩,[(.ext 2,⟨[QA,LW,Re,OA],[],JA,1,49⟩)],[],[0,1,2,6,7],[0,1,2,6]⟩
def Fz(s: (Unit×Int×Int×Int×Int×Unit)×Unit×List Int×Unit):IQ.R:=
 br (decide (s.1.2.2.2.2.1>s.1.2.1)) (iteP (0<=s.1.2.2.2.2.1/\s.1.2.2.2.2.1< (s.2.2.1.length:Int)) ((s.2.2.1[s.1.2.2.2.2.1.toNat]?).bind λx10=>iteP (0<=(IntKind.wrap .i64 (s.1.2.2.2.2.1-1))/\(IntKind.wrap .i64 (s.1.2.2.2.2.1-1))< (s.2.2.1.length:Int)) ((s.2.2.1[(IntKind.wrap .i64 (s.1.2.2.2.2.1-1)).toNat]?).bind λx11=>(Jt x10 x11).bind λy12=>br y12.1 (iteP (0<=(IntKind.wrap .i64 (s.1.2.2.2.2.1-1))/\(IntKind.wrap .i64 (s.1.2.2.2.2.1-1))< (s.2.2.1.length:Int)) ((s.2.2.1[(IntKind.wrap .i64 (s.1.2.2.2.2.1-1)).toNat]?).bind λx13=>iteP (0<=s.1.2.2.2.2.1/\s.1.2.2.2.2.1< (s.2.2.1.length:Int)) ((s.2.2.1[s.1.2.2.2.2.1.toNat]?).bind λx14=>iteP (0<=s.1.2.2.2.2.1/\s.1.2.2.2.2.1< (s.2.2.1.length:Int)) (iteP (0<=(IntKind.wrap .i64 (s.1.2.2.2.2.1-1))/\(IntKind.wrap .i64 (s.1.2.2.2.2.1-1))< (s.2.2.1.length:Int)) ((s.2.2.1[s.1.2.2.2.2.1.toNat]?).bind λ_=>let z16:=s.2.2.1.set s.1.2.2.2.2.1.toNat x13;(z16[(IntKind.wrap .i64 (s.1.2.2.2.2.1-1)).toNat]?).bind λ_=>some (.inl (((),s.1.2.1,s.1.2.2.1,s.1.2.2.2.1,(IntKind.wrap .i64 (s.1.2.2.2.2.1-1)),()),(()),(z16.set ((IntKind.wrap .i64 (s.1.2.2.2.2.1-1)).toNat) x14),()))) none) none) none) none) (some (.inr (((),s.1.2.1,s.1.2.2.1,s.1.2.2.2.1,()),(()),s.2.2)))) none) none) (some (.inr (((),s.1.2.1,s.1.2.2.1,s.1.2.2.2.1,()),(()),s.2.2)))
def Gu:=md Fz
def L3[dL] :=Ik Tryz.f274 [0,0] IQ Fz [Wr] [] (by kernel_rfl) λs=>by simp only[Fz,tm];kernel_rfl
abbrev IP:LX:=⟨⟨[QA,LW,Re,OA],[],JA,1,49⟩,[(.ext 0,⟨[],[],JA,1,49⟩)],[],[0,1,2,6],[]⟩
def Fp(s: (Unit×Int×Int×Int×Unit)×Unit×List Int×Unit):IP.R:=
 br (decide (s.1.2.2.2.1<s.1.2.2.1)) ((Gu (((),s.1.2.1,s.1.2.2.1,s.1.2.2.2.1,s.1.2.2.2),(()),s.2.2)).bind λe19=>some (.inl (((),e19.1.2.1,e19.1.2.2.1,(IntKind.wrap .i64 (e19.1.2.2.2.1+1)),()),(()),e19.2.2))) (some (.inr ((()),(()),s.2.2)))
def Gt:=md Fp
def L0[dL] :=Ik Tryz.f274 [0] IP Fp [] [L3] (by kernel_rfl) λs=>by simp only[Fp,tm];kernel_rfl
def FD(a0:List Int)(a1:Int)(a2:Int):Option ((List Int)×Unit):=
 (Gt (((),a1,a2,(IntKind.wrap .i64 (a1+1)),()),(()),a0,())).bind λe20=>some e20.2.2
def Mn[dL] :=coI 274 Tryz.f274 (.i .i64) acI [] (λl x=>FD l x.1 x.2.1) [] [L0] (by kernel_rfl) λl x=>by simp only[FD,tm];kernel_rfl
abbrev Km:LX:=⟨⟨[QA,LW,Re,OM,XH,Rf],[],JA,1,134⟩,[(.ret,⟨[],[],JA,1,134⟩)],[],[0,1,2,3,8,9],[]⟩
def Gx(s: (Unit×Int×Int×Int×Bool×Bool×Unit)×Unit×List Int×Unit):Km.R:=
 br (decide ((IntKind.wrap .i64 (s.1.2.2.1-s.1.2.1))<=12)) ((FD s.2.2.1 s.1.2.1 s.1.2.2.1).bind λy7=>iteP (y7.1.length=s.2.2.1.length) (some (.inr ((()),(()),y7.1,()))) none) (br (s.1.2.2.2.1==0) (none) (br (!s.1.2.2.2.2.1) (none) (none)))
def Il:=md Gx
def Om[dL] :=Ik Tryz.f263 [0] Km Gx [Mn] [] (by kernel_rfl) λs=>by simp only[Gx,tm,-eq_self];kernel_rfl
def F6(a0:List Int)(a1:Int)(a2:Int)(a3:Int):Option ((List Int)×Unit):=
 (Il (((),a1,a2,a3,true,true,()),(()),a0,())).bind λe8=>some e8.2.2
def OI[dL] :=coI 263 Tryz.f263 (.i .i64) aaH [] (λl x=>F6 l x.1 x.2.1 x.2.2.1) [] [Om] (by kernel_rfl) λl x=>by simp only[F6,tm];kernel_rfl
def Ij(a0:List Int):Option ((List Int)×Unit):=
 (Qa (IntKind.wrap .u64 (a0.length:Int))).bind λy1=>(F6 a0 0 (a0.length:Int) y1.1).bind λy2=>iteP (y2.1.length=a0.length) (some (y2.1,())) none
def UL[dL] :=coI 241 Tryz.f241 (.i .i64) [] [] (λl _=>Ij l) [aau,OI] [] (by kernel_rfl) λl x=>by simp only[Ij,tm,-eq_self];kernel_rfl
abbrev Nt:LX:=⟨⟨[QA,OM,(4,.cl (.sub 0 (.i .i64))),Ob],[],JA,0,61⟩,[(.ext 2,⟨[QA,OM],[],JA,0,61⟩)],[],[0,3,4,5],[0,3]⟩
def Hi(s: (Unit×Int×(Nat×Nat)×Int×Unit)×Unit×List Int×Unit):Nt.R:=
 br (decide (s.1.2.2.2.1< ((s.1.2.2.1.2:Nat):Int))) (iteP (0<=s.1.2.2.2.1/\s.1.2.2.2.1< ((s.1.2.2.1.2:Nat):Int)) ((s.2.2.1[(s.1.2.2.1.1+s.1.2.2.2.1.toNat)]?).bind λx9=>iteP (0<=(IntKind.wrap .i64 (s.1.2.2.2.1-1))/\(IntKind.wrap .i64 (s.1.2.2.2.1-1))< ((s.1.2.2.1.2:Nat):Int)) ((s.2.2.1[(s.1.2.2.1.1+(IntKind.wrap .i64 (s.1.2.2.2.1-1)).toNat)]?).bind λx10=>br (!(x9==x10)) (iteP (0<=s.1.2.2.2.1/\s.1.2.2.2.1< ((s.1.2.2.1.2:Nat):Int)) ((s.2.2.1[(s.1.2.2.1.1+s.1.2.2.2.1.toNat)]?).bind λx11=>iteP (0<=s.1.2.1/\s.1.2.1< (s.2.2.1.length:Int)) ((s.2.2.1[s.1.2.1.toNat]?).bind λ_=>some (.inl (((),(IntKind.wrap .i64 (s.1.2.1+1)),s.1.2.2.1,(IntKind.wrap .i64 (s.1.2.2.2.1+1)),()),(()),(s.2.2.1.set s.1.2.1.toNat x11),()))) none) none) (some (.inl (((),s.1.2.1,s.1.2.2.1,(IntKind.wrap .i64 (s.1.2.2.2.1+1)),()),(()),s.2.2)))) none) none) (some (.inr (((),s.1.2.1,()),(()),s.2.2)))
def Nq:=md Hi
def Q7[dL] :=Ik Tryz.f242 [0,0] Nt Hi [] [] (by kernel_rfl) λs=>by simp only[Hi,tm];kernel_rfl
abbrev Ns:LX:=⟨⟨[QA,OM],[],JA,0,61⟩,[(.ret,⟨[QA,(2,.cl (.sub 0 (.i .i64)))],[],JA,0,61⟩),(.ext 0,⟨[QA,Nr],[],JA,0,61⟩)],[],[0,3],[0,2]⟩
def FW(s:UW×Unit×List Int×Unit):Ns.R:=
 br (decide (s.1.2.1< (s.2.2.1.length:Int))) (iteP (0<=s.1.2.1/\s.1.2.1< (s.2.2.1.length:Int)) ((s.2.2.1[s.1.2.1.toNat]?).bind λx3=>iteP (0<=(IntKind.wrap .i64 (s.1.2.1-1))/\(IntKind.wrap .i64 (s.1.2.1-1))< (s.2.2.1.length:Int)) ((s.2.2.1[(IntKind.wrap .i64 (s.1.2.1-1)).toNat]?).bind λx4=>br (x3==x4) (iteP (0<=s.1.2.1/\s.1.2.1<=(s.2.2.1.length:Int)/\(s.2.2.1.length:Int)<=((s.2.2.1.length:Nat):Int)) ((Nq (((),s.1.2.1,((0+s.1.2.1.toNat),((s.2.2.1.length:Int).toNat-s.1.2.1.toNat)),1,()),(()),s.2.2)).bind λe16=>iteP (0<=e16.1.2.1/\e16.1.2.1<=(e16.2.2.1.length:Int)/\(e16.2.2.1.length:Int)<=((e16.2.2.1.length:Nat):Int)) (iteP ((0+e16.1.2.1.toNat)+((e16.2.2.1.length:Int).toNat-e16.1.2.1.toNat)<=e16.2.2.1.length) (iteP (0<=(0:Int)/\(0:Int)<=e16.1.2.1/\e16.1.2.1<=((e16.2.2.1.length:Nat):Int)) (some (.inr (.inl (((),((0+(0:Int).toNat),(e16.1.2.1.toNat-(0:Int).toNat)),()),(()),(e16.2.2.1.take (0+e16.1.2.1.toNat)++List.replicate ((e16.2.2.1.length:Int).toNat-e16.1.2.1.toNat) (0:Int)++e16.2.2.1.drop ((0+e16.1.2.1.toNat)+((e16.2.2.1.length:Int).toNat-e16.1.2.1.toNat))),())))) none) none) none) none) (some (.inl (((),(IntKind.wrap .i64 (s.1.2.1+1)),()),(()),s.2.2)))) none) none) (some (.inr (.inr (((),(),()),(()),s.2.2))))
def KG:=md FW
def Q6[dL] :=Ik Tryz.f242 [0] Ns FW [] [Q7] (by kernel_rfl) λs=>by simp only[FW,tm];kernel_rfl
def Hg(a0:List Int):Option ((List Int)×Unit):=
 br (decide ((a0.length:Int)<2)) (some (a0,())) ((KG (((),1,()),(()),a0,())).bind λe17=>Sum.elim (λe17_0=>iteP (e17_0.1.2.1.1=0/\e17_0.1.2.1.2<=e17_0.2.2.1.length) (some ((e17_0.2.2.1.take e17_0.1.2.1.2),())) (iteP (e17_0.1.2.1.1+e17_0.1.2.1.2<=e17_0.2.2.1.length) (some (((e17_0.2.2.1.drop e17_0.1.2.1.1).take e17_0.1.2.1.2),())) none)) (λe17_1=>some e17_1.2.2) e17)
def R8[dL] :=coM 242 Tryz.f242 (.i .i64) [] L5 (λl _=>Hg l) [] [Q6] (by kernel_rfl) λl x=>by simp only[Hg,tm,-eq_self];kernel_rfl
def Jm(a0:List Int):Option ((List Int)×Unit):=
 (Jy a0).bind λy1=>(Ij y1.1).bind λy2=>iteP (y2.1.length=y1.1.length) ((Hg y2.1).bind λy3=>some (y3.1,())) none
def Ta[dL] :=FB 186 Tryz.f186 Yz L5 (λx=>Jm x.1) [R7,UL,R8] [] (by kernel_rfl) λx=>by simp only[Jm,tm,-eq_self];kernel_rfl
def Hj(a0:Int)(a1:List Int):Option (Bool×Unit):=
 (IH a1 a0).bind λy1=>some (y1.1,())
def Np[dL] :=FB 187 Tryz.f187 [.ty (.i .i64),.pr (.ls (.i .i64))] [.b] (λx=>Hj x.1 x.2.1) [Ow] [] (by kernel_rfl) λx=>by simp only[Hj,tm];kernel_rfl
abbrev HO:LX:=⟨⟨[Pk,(1,.fn 187 [.pro (.ls (.i .i64))]),Ot,Pj],[],[],0,19⟩,[(.ret,⟨[Oq],[],[],0,19⟩),(.ext 0,⟨[Ph],[],[],0,19⟩)],[],[0,1,7,8],[4]⟩
def Fy(s: (List Int×(List Int×Unit)×Int×Int×Unit)×Unit×Unit):HO.R:=
 br (decide (s.1.2.2.2.1<s.1.2.2.1)) (iteP (0<=s.1.2.2.2.1) ((s.1.1[s.1.2.2.2.1.toNat]?).bind λx5=>(Hj x5 s.1.2.1.1).bind λy6=>br y6.1 (some (.inr (.inl (s.1.2.2.2,(()),(()))))) (some (.inl ((s.1.1,s.1.2.1,s.1.2.2.1,(IntKind.wrap .i64 (s.1.2.2.2.1+1)),()),(()),(()))))) none) (some (.inr (.inr (((),()),(()),(())))))
def GL:=md Fy
def KF[dL] :=Ik Tryz.f179 [0] HO Fy [Np] [] (by kernel_rfl) λs=>by simp only[Fy,tm];kernel_rfl
def Gg(a0:List Int)(a1_0:List Int):Option (Int×Unit):=
 (GL ((a0,(a1_0,()),(a0.length:Int),0,()),(()),(()))).bind λe7=>Sum.elim (λe7_0=>some e7_0.1) (λ_=>some ((-1),())) e7
def KW[dL] :=FB 179 Tryz.f179 [.ty (.ls (.i .i64)),.fn 187 L5] Kk (λx=>Gg x.1 x.2.1.1) [] [KF] (by kernel_rfl) λx=>by simp only[Gg,tm];kernel_rfl
abbrev Ho:LX:=⟨⟨[QA,(1,.fn 187 [.pro (.ls (.i .i64))]),Ob,OA],[],JA,0,42⟩,[(.ext 0,⟨[QA,Ob],[],JA,0,42⟩)],[],[0,1,5,6],[0,5]⟩
def Ft(s: (Unit×(List Int×Unit)×Int×Int×Unit)×Unit×List Int×Unit):Ho.R:=
 br (decide (s.1.2.2.2.1< (s.2.2.1.length:Int))) (iteP (0<=s.1.2.2.2.1/\s.1.2.2.2.1< (s.2.2.1.length:Int)) ((s.2.2.1[s.1.2.2.2.1.toNat]?).bind λx6=>(Hj x6 s.1.2.1.1).bind λy7=>br (!y7.1) (iteP (0<=s.1.2.2.1/\s.1.2.2.1< (s.2.2.1.length:Int)) ((s.2.2.1[s.1.2.2.1.toNat]?).bind λ_=>some (.inl (((),s.1.2.1,(IntKind.wrap .i64 (s.1.2.2.1+1)),(IntKind.wrap .i64 (s.1.2.2.2.1+1)),()),(()),(s.2.2.1.set s.1.2.2.1.toNat x6),()))) none) (some (.inl (((),s.1.2.1,s.1.2.2.1,(IntKind.wrap .i64 (s.1.2.2.2.1+1)),()),(()),s.2.2)))) none) (some (.inr (((),s.1.2.2.1,()),(()),s.2.2)))
def Hn:=md Ft
def JM[dL] :=Ik Tryz.f77 [0] Ho Ft [Np] [] (by kernel_rfl) λs=>by simp only[Ft,tm];kernel_rfl
def FE(a0:List Int)(a1_0:List Int):Option ((List Int)×Unit):=
 (Gg a0 a1_0).bind λy1=>br (y1.1==(-1)) (some (a0,())) ((Hn (((),(a1_0,()),y1.1,(IntKind.wrap .i64 (y1.1+1)),()),(()),a0,())).bind λe12=>iteP (0<=e12.1.2.1/\e12.1.2.1<=(e12.2.2.1.length:Int)/\(e12.2.2.1.length:Int)<=((e12.2.2.1.length:Nat):Int)) (iteP ((0+e12.1.2.1.toNat)+((e12.2.2.1.length:Int).toNat-e12.1.2.1.toNat)<=e12.2.2.1.length) (iteP (0<=(0:Int)/\(0:Int)<=e12.1.2.1/\e12.1.2.1<=((e12.2.2.1.length:Nat):Int)) (iteP ((0+(0:Int).toNat)=0/\(e12.1.2.1.toNat-(0:Int).toNat)<=(e12.2.2.1.take (0+e12.1.2.1.toNat)++List.replicate ((e12.2.2.1.length:Int).toNat-e12.1.2.1.toNat) (0:Int)++e12.2.2.1.drop ((0+e12.1.2.1.toNat)+((e12.2.2.1.length:Int).toNat-e12.1.2.1.toNat))).length) (some (((e12.2.2.1.take (0+e12.1.2.1.toNat)++List.replicate ((e12.2.2.1.length:Int).toNat-e12.1.2.1.toNat) (0:Int)++e12.2.2.1.drop ((0+e12.1.2.1.toNat)+((e12.2.2.1.length:Int).toNat-e12.1.2.1.toNat))).take (e12.1.2.1.toNat-(0:Int).toNat)),())) (iteP ((0+(0:Int).toNat)+(e12.1.2.1.toNat-(0:Int).toNat)<=(e12.2.2.1.take (0+e12.1.2.1.toNat)++List.replicate ((e12.2.2.1.length:Int).toNat-e12.1.2.1.toNat) (0:Int)++e12.2.2.1.drop ((0+e12.1.2.1.toNat)+((e12.2.2.1.length:Int).toNat-e12.1.2.1.toNat))).length) (some ((((e12.2.2.1.take (0+e12.1.2.1.toNat)++List.replicate ((e12.2.2.1.length:Int).toNat-e12.1.2.1.toNat) (0:Int)++e12.2.2.1.drop ((0+e12.1.2.1.toNat)+((e12.2.2.1.length:Int).toNat-e12.1.2.1.toNat))).drop (0+(0:Int).toNat)).take (e12.1.2.1.toNat-(0:Int).toNat)),())) none)) none) none) none)
def J0[dL] :=coM 77 Tryz.f77 (.i .i64) [.fn 187 L5] L5 (λl x=>FE l x.1.1) [KW] [JM] (by kernel_rfl) λl x=>by simp only[FE,tm,-eq_self];kernel_rfl
def Ie(a0:List Int)(a1:List Int):Option ((List Int)×Unit):=
 (Jm a0).bind λy1=>(FE y1.1 a1).bind λy2=>some (y2.1,())
def SA[dL] :=FB 83 Tryz.f83 WU L5 (λx=>Ie x.1 x.2.1) [Ta,J0] [] (by kernel_rfl) λx=>by simp only[Ie,tm];kernel_rfl
def JD(a0:List Int)(a1:List Int):Option ((List Int)×Unit):=
 (Ie a0 a1).bind λy1=>(Ie a0 y1.1).bind λy2=>some (y2.1,())
def TB[dL] :=FB 93 Tryz.f93 WU L5 (λx=>JD x.1 x.2.1) [SA] [] (by kernel_rfl) λx=>by simp only[JD,tm];kernel_rfl
def G0(a0:om):Option (Bool×Unit):=
 (Fs a0.epoch 1 20).bind λy1=>br y1.1 ((HX a0.replicas).bind λy2=>br y2.1 ((HX a0.witnesses).bind λy3=>br y3.1 ((IH a0.replicas a0.primary).bind λy4=>br y4.1 ((JD a0.replicas a0.witnesses).bind λy5=>some (((y5.1.length:Int)==0),())) (some (false,()))) (some (false,()))) (some (false,()))) (some (false,()))
def JJ[dL] :=FB 20 Tryz.f20 YA [.b] (λx=>G0 x.1) [Hh,Ws,Ow,TB] [] (by kernel_rfl) λx=>by simp only[G0,tm];kernel_rfl
abbrev P2:LX:=⟨⟨[LV,(6,.cl (.ro (.st .config))),Ot,Pj],[YC],[],0,30⟩,[(.ret,⟨[LV,Oz],[YC],[],0,30⟩),(.ext 0,⟨[LV,Nr],[YC],[],0,30⟩)],[],[1,6,7,8],[1,2]⟩
def Ip(s: (Unit×List om×Int×Int×Unit)×(adq×Unit)×Unit):P2.R:=
 br (decide (s.1.2.2.2.1<s.1.2.2.1)) (iteP (0<=s.1.2.2.2.1) ((s.1.2.1[s.1.2.2.2.1.toNat]?).bind λx6=>(G0 x6).bind λy7=>br (!y7.1) (some (.inr (.inl (((),false,()),s.2.1,(()))))) (br (!(x6.epoch==(IntKind.wrap .i64 (s.1.2.2.2.1+1)))) (some (.inr (.inl (((),false,()),s.2.1,(()))))) (some (.inl (((),s.1.2.1,s.1.2.2.1,(IntKind.wrap .i64 (s.1.2.2.2.1+1)),()),s.2.1,(())))))) none) (some (.inr (.inr (((),(),()),s.2.1,(())))))
def Nd:=md Ip
def TR[dL] :=Ik Tryz.f154 [0] P2 Ip [JJ] [] (by kernel_rfl) λs=>by simp only[Ip,tm];kernel_rfl
def H2(a0:kB):Option (Bool×Unit):=
 (Nd (((),a0.configs,(a0.configs.length:Int),0,()),((a0.configs,a0.activated,()),()),(()))).bind λe8=>Sum.elim (λe8_0=>some e8_0.1.2) (λe8_1=>(Fs e8_1.2.1.1.2.1 0 (e8_1.2.1.1.1.length:Int)).bind λy9=>some (y9.1,())) e8
def MJ[dL] :=FB 154 Tryz.f154 XF [.b] (λx=>H2 x.1) [Hh] [TR] (by kernel_rfl) λx=>by simp only[H2,tm];kernel_rfl
def GF(a0:om):Option (om×Unit):=
 iteP ((([]:List Int)++a0.replicas).length*8<=2 ^ 40) (iteP ((([]:List Int)++a0.witnesses).length*8<=2 ^ 40) (some ((⟨a0.epoch,a0.primary,(([]:List Int)++a0.replicas),(([]:List Int)++a0.witnesses)⟩:om),())) none) none
def LK[dL] :=FB 208 Tryz.f208 YA ab0 (λx=>GF x.1) [] [] (by kernel_rfl) λx=>by simp only[GF,tm];kernel_rfl
def Ju(a0:kB)(a1:Int):Option (om×Bool×Unit):=
 (H2 a0).bind λy1=>br (!y1.1) (some ((⟨0,0,([]:List Int),([]:List Int)⟩:om),false,())) ((Fs a1 1 (a0.configs.length:Int)).bind λy2=>br (!y2.1) (some ((⟨0,0,([]:List Int),([]:List Int)⟩:om),false,())) (iteP (0<=(IntKind.wrap .i64 (a1-1))) ((a0.configs[(IntKind.wrap .i64 (a1-1)).toNat]?).bind λx3=>(GF x3).bind λy4=>some (y4.1,true,())) none))
def Rx[dL] :=FB 159 Tryz.f159 Y2 YB (λx=>Ju x.1 x.2.1) [MJ,Hh,LK] [] (by kernel_rfl) λx=>by simp only[Ju,tm];kernel_rfl
def Lt(a0:kB):Option (om×Bool×Unit):=
 (Ju a0 (a0.configs.length:Int)).bind λy1=>some (y1.1,y1.2.1,())
def Wu[dL] :=FB 106 Tryz.f106 XF YB (λx=>Lt x.1) [Rx] [] (by kernel_rfl) λx=>by simp only[Lt,tm];kernel_rfl
def MH(a0:Int):Option (Bool×Unit):=
 (Fs a0 0 3).bind λy1=>some ((!y1.1),())
def Vq[dL] :=FB 234 Tryz.f234 WT [.b] (λx=>MH x.1) [Hh] [] (by kernel_rfl) λx=>by simp only[MH,tm];kernel_rfl
abbrev I0:LX:=⟨⟨[Pk,(1,.cl (.fc 234)),Ot,Pj],[],[],0,19⟩,[(.ret,⟨[Oq],[],[],0,19⟩),(.ext 0,⟨[Ph],[],[],0,19⟩)],[],[0,1,7,8],[4]⟩
def FQ(s: (List Int×Unit×Int×Int×Unit)×Unit×Unit):I0.R:=
 br (decide (s.1.2.2.2.1<s.1.2.2.1)) (iteP (0<=s.1.2.2.2.1) ((s.1.1[s.1.2.2.2.1.toNat]?).bind λx4=>(MH x4).bind λy5=>br y5.1 (some (.inr (.inl (s.1.2.2.2,(()),(()))))) (some (.inl ((s.1.1,(),s.1.2.2.1,(IntKind.wrap .i64 (s.1.2.2.2.1+1)),()),(()),(()))))) none) (some (.inr (.inr (((),()),(()),(())))))
def Hs:=md FQ
def L8[dL] :=Ik Tryz.f179 [0] I0 FQ [Vq] [] (by kernel_rfl) λs=>by simp only[FQ,tm];kernel_rfl
def GQ(a0:List Int):Option (Int×Unit):=
 (Hs ((a0,(),(a0.length:Int),0,()),(()),(()))).bind λe6=>Sum.elim (λe6_0=>some e6_0.1) (λ_=>some ((-1),())) e6
def M7[dL] :=FB 179 Tryz.f179 acJ Kk (λx=>GQ x.1) [] [L8] (by kernel_rfl) λx=>by simp only[GQ,tm];kernel_rfl
def Gq(a0:List Int):Option (Bool×Unit):=
 (GQ a0).bind λy1=>some ((decide (y1.1≥0)),())
def LO[dL] :=FB 68 Tryz.f68 acJ [.b] (λx=>Gq x.1) [M7] [] (by kernel_rfl) λx=>by simp only[Gq,tm];kernel_rfl
def K9(a0:List Int):Option (Bool×Unit):=
 br ((a0.length:Int)==5) ((Gq a0).bind λy1=>some ((!y1.1),())) (some (false,()))
def Up[dL] :=FB 153 Tryz.f153 Yz [.b] (λx=>K9 x.1) [LO] [] (by kernel_rfl) λx=>by simp only[K9,tm];kernel_rfl
def HK(a0:vz):Option (Bool×Unit):=
 br ((a0.epoch==0)&&((a0.holder==0)&&((a0.ends==0)&&true))) (some (true,())) ((Fs a0.epoch 1 20).bind λy1=>br y1.1 ((Fs a0.holder 0 4).bind λy2=>br y2.1 ((Fs a0.ends 1 1049).bind λy3=>some (y3.1,())) (some (false,()))) (some (false,())))
def Sy[dL] :=FB 155 Tryz.f155 Y1 [.b] (λx=>HK x.1) [Hh] [] (by kernel_rfl) λx=>by simp only[HK,tm];kernel_rfl
def Ls(a0:vB):Option (Bool×Unit):=
 (Fs a0.rack 0 9).bind λy1=>br (!y1.1) (some (true,())) ((Fs a0.capacity 0 9).bind λy2=>br (!y2.1) (some (true,())) ((Fs a0.load 0 99).bind λy3=>some ((!y3.1),())))
def Uo[dL] :=FB 236 Tryz.f236 [.ty (.st .place)] [.b] (λx=>Ls x.1) [Hh] [] (by kernel_rfl) λx=>by simp only[Ls,tm];kernel_rfl
abbrev Im:LX:=⟨⟨[Tl,(1,.cl (.fc 236)),Ot,Pj],[],[],0,19⟩,[(.ret,⟨[Oq],[],[],0,19⟩),(.ext 0,⟨[Ph],[],[],0,19⟩)],[],[0,1,7,8],[4]⟩
def FC(s: (List vB×Unit×Int×Int×Unit)×Unit×Unit):Im.R:=
 br (decide (s.1.2.2.2.1<s.1.2.2.1)) (iteP (0<=s.1.2.2.2.1) ((s.1.1[s.1.2.2.2.1.toNat]?).bind λx4=>(Ls x4).bind λy5=>br y5.1 (some (.inr (.inl (s.1.2.2.2,(()),(()))))) (some (.inl ((s.1.1,(),s.1.2.2.1,(IntKind.wrap .i64 (s.1.2.2.2.1+1)),()),(()),(()))))) none) (some (.inr (.inr (((),()),(()),(())))))
def G5:=md FC
def Lc[dL] :=Ik Tryz.f261 [0] Im FC [Uo] [] (by kernel_rfl) λs=>by simp only[FC,tm];kernel_rfl
def Gs(a0:List vB):Option (Int×Unit):=
 (G5 ((a0,(),(a0.length:Int),0,()),(()),(()))).bind λe6=>Sum.elim (λe6_0=>some e6_0.1) (λ_=>some ((-1),())) e6
def LP[dL] :=FB 261 Tryz.f261 acK Kk (λx=>Gs x.1) [] [Lc] (by kernel_rfl) λx=>by simp only[Gs,tm];kernel_rfl
def Gd(a0:List vB):Option (Bool×Unit):=
 (Gs a0).bind λy1=>some ((decide (y1.1≥0)),())
def KT[dL] :=FB 235 Tryz.f235 acK [.b] (λx=>Gd x.1) [LP] [] (by kernel_rfl) λx=>by simp only[Gd,tm];kernel_rfl
def Lf(a0:List vB):Option (Bool×Unit):=
 br ((a0.length:Int)==5) ((Gd a0).bind λy1=>some ((!y1.1),())) (some (false,()))
def Xk[dL] :=FB 156 Tryz.f156 aaI [.b] (λx=>Lf x.1) [KT] [] (by kernel_rfl) λx=>by simp only[Lf,tm];kernel_rfl
def Li(a0:Op):Option (Bool×Unit):=
 (Fs a0.client 0 2).bind λy1=>br (!y1.1) (some (false,())) ((Fs a0.seq 1 99).bind λy2=>br (!y2.1) (some (false,())) ((Fs a0.object 0 2).bind λy3=>br (!y3.1) (some (false,())) ((Fs a0.value 0 9).bind λy4=>br (!y4.1) (some (false,())) (br (a0.kind==1) (br (a0.old==0) (some (true,())) (br (a0.kind==2) ((Fs a0.old 0 9).bind λy5=>some (y5.1,())) (some (false,())))) (br (a0.kind==2) ((Fs a0.old 0 9).bind λy6=>some (y6.1,())) (some (false,())))))))
def Xm[dL] :=FB 133 Tryz.f133 XE [.b] (λx=>Li x.1) [Hh] [] (by kernel_rfl) λx=>by simp only[Li,tm];kernel_rfl
abbrev Wh:LX:=⟨⟨[QB,(5,.cl (.ro (.st .entry))),OA,Ot],[],[],0,41⟩,[(.ret,⟨[QB,Oz],[],[],0,41⟩),(.ext 0,⟨[QB,Nr],[],[],0,41⟩)],[],[0,5,6,7],[0,2]⟩
def NI(s:ac2×Unit×Unit):Wh.R:=
 br (decide (s.1.2.2.2.1<s.1.2.2.1)) (iteP (0<=s.1.2.2.2.1) ((s.1.2.1[s.1.2.2.2.1.toNat]?).bind λx5=>(Fs x5.epoch 1 20).bind λy6=>br (!y6.1) (some (.inr (.inl ((s.1.1,false,()),(()),(()))))) (br (decide (s.1.2.2.2.1>0)) (iteP (0<=(IntKind.wrap .i64 (s.1.2.2.2.1-1))) ((s.1.1[(IntKind.wrap .i64 (s.1.2.2.2.1-1)).toNat]?).bind λx7=>br (decide (x5.epoch<x7.epoch)) (some (.inr (.inl ((s.1.1,false,()),(()),(()))))) ((Li x5.op).bind λy8=>br (!y8.1) (some (.inr (.inl ((s.1.1,false,()),(()),(()))))) (some (.inl ((s.1.1,s.1.2.1,s.1.2.2.1,(IntKind.wrap .i64 (s.1.2.2.2.1+1)),()),(()),(())))))) none) ((Li x5.op).bind λy9=>br (!y9.1) (some (.inr (.inl ((s.1.1,false,()),(()),(()))))) (some (.inl ((s.1.1,s.1.2.1,s.1.2.2.1,(IntKind.wrap .i64 (s.1.2.2.2.1+1)),()),(()),(()))))))) none) (some (.inr (.inr ((s.1.1,(),()),(()),(())))))
def SJ:=md NI
def ZV[dL] :=Ik Tryz.f207 [0] Wh NI [Hh,Xm] [] (by kernel_rfl) λs=>by simp only[NI,tm];kernel_rfl
def JY(a0:List sf):Option (Bool×Unit):=
 (SJ ((a0,a0,(a0.length:Int),0,()),(()),(()))).bind λe10=>Sum.elim (λe10_0=>some e10_0.1.2) (λe10_1=>some ((decide ((e10_1.1.1.length:Int)<=16)),())) e10
def RZ[dL] :=FB 207 Tryz.f207 Sd [.b] (λx=>JY x.1) [] [ZV] (by kernel_rfl) λx=>by simp only[JY,tm];kernel_rfl
abbrev QQ:LX:=⟨⟨[Pk,Sf,Qz,aaS],[],[],0,26⟩,[(.ret,⟨[US],[],[],0,26⟩),(.ext 0,⟨[Ph],[],[],0,26⟩)],[],[0,1,12,13],[4]⟩
def Ih(s:ac1×Unit×Unit):QQ.R:=
 br (decide (s.1.2.2.2.1<s.1.2.2.1)) (iteP (0<=s.1.2.2.2.1) ((s.1.1[s.1.2.2.2.1.toNat]?).bind λx5=>iteP (0<=s.1.2.2.2.1) ((s.1.2.1[s.1.2.2.2.1.toNat]?).bind λx6=>br (!(x5==x6)) (some (.inr (.inl ((false,()),(()),(()))))) (some (.inl ((s.1.1,s.1.2.1,s.1.2.2.1,(IntKind.wrap .i64 (s.1.2.2.2.1+1)),()),(()),(()))))) none) none) (some (.inr (.inr (((),()),(()),(())))))
def N8:=md Ih
def Vf[dL] :=Ik Tryz.f63 [0] QQ Ih [] [] (by kernel_rfl) λs=>by simp only[Ih,tm];kernel_rfl
def Jz(a0:List Int)(a1:List Int):Option (Bool×Unit):=
 br (!((a0.length:Int)==(a1.length:Int))) (some (false,())) ((N8 ((a0,a1,(a0.length:Int),0,()),(()),(()))).bind λe7=>Sum.elim (λe7_0=>some e7_0.1) (λ_=>some (true,())) e7)
def R9[dL] :=FB 63 Tryz.f63 WU [.b] (λx=>Jz x.1 x.2.1) [] [Vf] (by kernel_rfl) λx=>by simp only[Jz,tm];kernel_rfl
def Ja(a0:List Int)(a1:List Int):Option (Bool×Unit):=
 (Jz a0 a1).bind λy1=>some (y1.1,())
def Uq[dL] :=FB 91 Tryz.f91 WU [.b] (λx=>Ja x.1 x.2.1) [R9] [] (by kernel_rfl) λx=>by simp only[Ja,tm];kernel_rfl
def Gi(a0:om)(a1:om):Option (Bool×Unit):=
 br (a0.epoch==a1.epoch) (br (a0.primary==a1.primary) ((Ja a0.replicas a1.replicas).bind λy1=>br y1.1 ((Ja a0.witnesses a1.witnesses).bind λy2=>some (y2.1,())) (some (false,()))) (some (false,()))) (some (false,()))
def Ji[dL] :=FB 19 Tryz.f19 acw [.b] (λx=>Gi x.1 x.2.1) [Uq] [] (by kernel_rfl) λx=>by simp only[Gi,tm];kernel_rfl
def J6(a0:List sf):Option (Int×Unit):=
 br ((a0.length:Int)==0) (some (0,())) (iteP (0<=(IntKind.wrap .i64 ((a0.length:Int)-1))) ((a0[(IntKind.wrap .i64 ((a0.length:Int)-1)).toNat]?).bind λx1=>some (x1.epoch,())) none)
def Qn[dL] :=FB 158 Tryz.f158 Sd Kk (λx=>J6 x.1) [] [] (by kernel_rfl) λx=>by simp only[J6,tm];kernel_rfl
def Lu(a0:om)(a1:Int):Option (Int×Unit):=
 (G0 a0).bind λy1=>br (!y1.1) (some (0,())) (br (a1==a0.primary) (some (1,())) ((IH a0.replicas a1).bind λy2=>br y2.1 (some (2,())) ((IH a0.witnesses a1).bind λy3=>br y3.1 (some (3,())) (some (0,())))))
def Us[dL] :=FB 97 Tryz.f97 acx Kk (λx=>Lu x.1 x.2.1) [JJ,Ow] [] (by kernel_rfl) λx=>by simp only[Lu,tm];kernel_rfl
def NP(a0:Int)(a1:List sf):Option (Bool×Unit):=
 (JY a1).bind λy1=>br y1.1 (br (decide ((a1.length:Int)<=3)) ((Fs a0 0 (IntKind.wrap .i64 (16-(a1.length:Int)))).bind λy2=>br y2.1 (br (a0==0) (some (true,())) (some (((a1.length:Int)==3),()))) (some (false,()))) (some (false,()))) (some (false,()))
def Xn[dL] :=FB 237 Tryz.f237 acD [.b] (λx=>NP x.1 x.2.1) [RZ,Hh] [] (by kernel_rfl) λx=>by simp only[NP,tm];kernel_rfl
def Iv(a0:qQ)(a1:Int):Option (Bool×Unit):=
 (Fs a0.version 1 2).bind λy1=>br (!y1.1) (some (false,())) ((Fs a0.epoch 0 20).bind λy2=>br (!y2.1) (some (false,())) ((JY a0.log).bind λy3=>br (!y3.1) (some (false,())) ((JY a0.learned).bind λy4=>br (!y4.1) (some (false,())) ((Fs a0.first 0 16).bind λy5=>br (!y5.1) (some (false,())) (br (decide ((IntKind.wrap .i64 (a0.first+(a0.log.length:Int)))>16)) (some (false,())) ((Fs a0.commit 0 (IntKind.wrap .i64 (a0.first+(a0.log.length:Int)))).bind λy6=>br (!y6.1) (some (false,())) ((Gi a0.config (⟨0,0,([]:List Int),([]:List Int)⟩:om)).bind λy7=>br y7.1 (br (a0.first==0) (br (a0.commit==0) (some (((a0.log.length:Int)==0),())) (some (false,()))) (some (false,()))) (br (!a0.intact) (some (false,())) (br (decide (a0.epoch<a0.config.epoch)) (some (false,())) ((J6 a0.log).bind λy8=>br (decide (y8.1>a0.config.epoch)) (some (false,())) ((Lu a0.config a1).bind λy9=>br (y9.1==1) (some ((a0.first==0),())) (br (y9.1==2) (some ((a0.first==0),())) (br (y9.1==3) ((NP a0.first a0.log).bind λy12=>some (y12.1,())) (some (false,())))))))))))))))
def PT[dL] :=FB 157 Tryz.f157 VN [.b] (λx=>Iv x.1 x.2.1) [Hh,RZ,Ji,Qn,Us,Xn] [] (by kernel_rfl) λx=>by simp only[Iv,tm];kernel_rfl
abbrev Oc:LX:=⟨⟨[LV,(57,.cl (.ro (.st .server))),(58,.cl (.int .i64)),(59,.cl (.int .i64))],[KC],[],0,118⟩,[(.ret,⟨[Oz],[],[],0,118⟩),(.ext 0,⟨[Nr],[],[],0,118⟩)],[],[1,57,58,59],[2]⟩
def Hv(s: (Unit×List qQ×Int×Int×Unit)×(NF×Unit)×Unit):Oc.R:=
 br (decide (s.1.2.2.2.1<s.1.2.2.1)) (iteP (0<=s.1.2.2.2.1) ((s.1.2.1[s.1.2.2.2.1.toNat]?).bind λx20=>(Iv x20 s.1.2.2.2.1).bind λy21=>br (!y21.1) (some (.inr (.inl ((false,()),(()),(()))))) (br (decide (x20.epoch>(s.2.1.1.2.2.2.1.length:Int))) (some (.inr (.inl ((false,()),(()),(()))))) ((J6 x20.learned).bind λy22=>br (decide (y22.1>s.2.1.1.2.2.2.2.1)) (some (.inr (.inl ((false,()),(()),(()))))) ((Gi x20.config (⟨0,0,([]:List Int),([]:List Int)⟩:om)).bind λy23=>br y23.1 (some (.inl (((),s.1.2.1,s.1.2.2.1,(IntKind.wrap .i64 (s.1.2.2.2.1+1)),()),s.2.1,(())))) ((Ju (⟨s.2.1.1.2.2.2.1,s.2.1.1.2.2.2.2.1⟩:kB) x20.config.epoch).bind λy24=>br (!y24.2.1) (some (.inr (.inl ((false,()),(()),(()))))) ((Gi y24.1 x20.config).bind λy25=>br (!y25.1) (some (.inr (.inl ((false,()),(()),(()))))) (br (decide (x20.config.epoch>s.2.1.1.2.2.2.2.1)) (some (.inr (.inl ((false,()),(()),(()))))) (some (.inl (((),s.1.2.1,s.1.2.2.1,(IntKind.wrap .i64 (s.1.2.2.2.1+1)),()),s.2.1,(()))))))))))) none) (some (.inr (.inr (((),()),(()),(())))))
def La:=md Hv
def RD[dL] :=Ik Tryz.f49 [0] Oc Hv [PT,Qn,Ji,Rx] [] (by kernel_rfl) λs=>by simp only[Hv,tm];kernel_rfl
def G7(a0:qN):Option (Bool×Unit):=
 (Fs a0.now 0 999).bind λy1=>br (!y1.1) (some (false,())) (br (!((a0.servers.length:Int)==5)) (some (false,())) ((K9 a0.sides).bind λy2=>br (!y2.1) (some (false,())) ((H2 a0.master).bind λy3=>br (!y3.1) (some (false,())) ((HK a0.lease).bind λy4=>br (!y4.1) (some (false,())) ((Lf a0.places).bind λy5=>br (!y5.1) (some (false,())) ((Fs a0.masterUp 0 3).bind λy6=>br (!y6.1) (some (false,())) (br (decide (a0.lease.epoch>a0.master.activated)) (some (false,())) ((La (((),a0.servers,(a0.servers.length:Int),0,()),((a0.now,a0.servers,a0.sides,a0.master.configs,a0.master.activated,a0.masterUp,a0.lease.epoch,a0.lease.holder,a0.lease.ends,a0.places,()),()),(()))).bind λe26=>Sum.elim (λe26_0=>some e26_0.1) (λ_=>some (true,())) e26))))))))
def KA[dL] :=FB 49 Tryz.f49 SN [.b] (λx=>G7 x.1) [Hh,Up,MJ,Sy,Xk] [RD] (by kernel_rfl) λx=>by simp only[G7,tm];kernel_rfl
def Gb(a0:List sf):Option ((List sf)×Unit):=iteP (a0.length*56<=2 ^ 40) (some (a0,())) none
def Jk[dL] :=coC 203 Tryz.f203 (.st .entry) 56 Gb (by kernel_rfl) (λ_=>rfl) λ_=>by kernel_rfl
def G1(a0:qQ):Option (qQ×Unit):=
 (GF a0.config).bind λy1=>(Gb a0.log).bind λy2=>(Gb a0.learned).bind λy3=>some ((⟨a0.up,a0.intact,a0.version,a0.epoch,y1.1,a0.first,y2.1,a0.commit,y3.1⟩:qQ),())
def PK[dL] :=FB 160 Tryz.f160 We abZ (λx=>G1 x.1) [LK,Jk] [] (by kernel_rfl) λx=>by simp only[G1,tm];kernel_rfl
abbrev QH:LX:=⟨⟨[M9,Se,(10,.cl (.ro (.st .config))),UT,Qz],[ZQ,Ze],ab2,0,25⟩,[(.ext 0,⟨[M9,Se],[ZQ,Ze],ab2,0,25⟩)],[.b 2 0 (.st .config)],[2,3,10,11,12],[2,3]⟩
def I6(s: (Unit×Unit×List om×Int×Int×Unit)×(UW×UW×Unit)×List om×Unit):QH.R:=
 br (decide (s.1.2.2.2.2.1<s.1.2.2.2.1)) (iteP (0<=s.1.2.2.2.2.1) ((s.1.2.2.1[s.1.2.2.2.2.1.toNat]?).bind λx14=>(GF x14).bind λy15=>iteP ((s.2.2.1++([y15.1]:List om)).length*64<=2 ^ 40) (some (.inl (((),(),s.1.2.2.1,s.1.2.2.2.1,(IntKind.wrap .i64 (s.1.2.2.2.2.1+1)),()),s.2.1,(s.2.2.1++([y15.1]:List om)),()))) none) none) (some (.inr (((),(),()),s.2)))
def Qw:=md I6
def U6[dL] :=Ik Tryz.f161 [0] QH I6 [LK] [] (by kernel_rfl) λs=>by simp only[I6,tm];kernel_rfl
def Jv(a0:kB):Option (kB×Unit):=
 (Qw (((),(),a0.configs,(a0.configs.length:Int),0,()),(((),0,()),((),a0.activated,()),()),([]:List om),())).bind λe16=>some ((⟨e16.2.2.1,e16.2.1.2.1.2.1⟩:kB),())
def PJ[dL] :=FB 161 Tryz.f161 XF ab1 (λx=>Jv x.1) [] [U6] (by kernel_rfl) λx=>by simp only[Jv,tm];kernel_rfl
def LI(a0:List vB):Option ((List vB)×Unit):=iteP (a0.length*24<=2 ^ 40) (some (a0,())) none
def UI[dL] :=coC 162 Tryz.f162 (.st .place) 24 LI (by kernel_rfl) (λ_=>rfl) λ_=>by kernel_rfl
abbrev P3:LX:=⟨⟨[LV,Pg,XG,(9,.cl (.ro (.st .server))),UU,UT],[KC,Na,Zf],ab3,0,36⟩,[(.ext 0,⟨[LV,Pg,XG],[KC,Na,Zf],ab3,0,36⟩)],[.b 2 1 (.st .server)],[1,2,3,9,10,11],[1,2,3]⟩
def Ir(s: (Unit×Unit×Unit×List qQ×Int×Int×Unit)×(NF×Nh×acT×Unit)×List qQ×Unit):P3.R:=
 br (decide (s.1.2.2.2.2.2.1<s.1.2.2.2.2.1)) (iteP (0<=s.1.2.2.2.2.2.1) ((s.1.2.2.2.1[s.1.2.2.2.2.2.1.toNat]?).bind λx60=>(G1 x60).bind λy61=>iteP ((s.2.2.1++([y61.1]:List qQ)).length*152<=2 ^ 40) (some (.inl (((),(),(),s.1.2.2.2.1,s.1.2.2.2.2.1,(IntKind.wrap .i64 (s.1.2.2.2.2.2.1+1)),()),s.2.1,(s.2.2.1++([y61.1]:List qQ)),()))) none) none) (some (.inr (((),(),(),()),s.2)))
def P0:=md Ir
def TV[dL] :=Ik Tryz.f51 [0] P3 Ir [PK] [] (by kernel_rfl) λs=>by simp only[Ir,tm];kernel_rfl
def Gl(a0:qN):Option (qN×Unit):=
 (P0 (((),(),(),a0.servers,(a0.servers.length:Int),0,()),((a0.now,a0.servers,a0.sides,a0.master.configs,a0.master.activated,a0.masterUp,a0.lease.epoch,a0.lease.holder,a0.lease.ends,a0.places,()),(0,(),(),(),0,0,0,0,0,(),()),(a0.now,(),a0.sides,a0.master.configs,a0.master.activated,a0.masterUp,a0.lease.epoch,a0.lease.holder,a0.lease.ends,a0.places,()),()),([]:List qQ),())).bind λe62=>(Jy e62.2.1.1.2.2.1).bind λy63=>(Jv (⟨e62.2.1.1.2.2.2.1,e62.2.1.1.2.2.2.2.1⟩:kB)).bind λy64=>(LI e62.2.1.1.2.2.2.2.2.2.2.2.2.1).bind λy65=>some ((⟨e62.2.1.2.2.1.1,e62.2.2.1,y63.1,y64.1,e62.2.1.2.2.1.2.2.2.2.2.1,(⟨e62.2.1.2.2.1.2.2.2.2.2.2.1,e62.2.1.2.2.1.2.2.2.2.2.2.2.1,e62.2.1.2.2.1.2.2.2.2.2.2.2.2.1⟩:vz),y65.1⟩:qN),())
def OH[dL] :=FB 51 Tryz.f51 SN TQ (λx=>Gl x.1) [R7,PJ,UI] [TV] (by kernel_rfl) λx=>by simp only[Gl,tm];kernel_rfl
def JR(a0:qN):Option (Bool×Unit):=
 some ((decide ((IntKind.wrap .i64 (2*a0.masterUp))>3)),())
def Q9[dL] :=FB 98 Tryz.f98 SN [.b] (λx=>JR x.1) [] [] (by kernel_rfl) λx=>by simp only[JR,tm];kernel_rfl
def Mb(a0:vz):Option (Int×Unit):=
 br ((a0.epoch==0)&&((a0.holder==0)&&((a0.ends==0)&&true))) (some (0,())) ((HK a0).bind λy1=>br (!y1.1) (some (0,())) (some ((IntKind.wrap .i64 (a0.ends+3)),())))
def Ye[dL] :=FB 53 Tryz.f53 Y1 Kk (λx=>Mb x.1) [Sy] [] (by kernel_rfl) λx=>by simp only[Mb,tm];kernel_rfl
def HB(a0:vz)(a1:Int):Option (Bool×Unit):=
 (HK a0).bind λy1=>br y1.1 ((Fs a1 0 999).bind λy2=>br y2.1 ((Mb a0).bind λy3=>some ((decide (a1≥y3.1)),())) (some (false,()))) (some (false,()))
def Vt[dL] :=FB 107 Tryz.f107 acB [.b] (λx=>HB x.1 x.2.1) [Sy,Hh,Ye] [] (by kernel_rfl) λx=>by simp only[HB,tm];kernel_rfl
def FL(a0:kB):Option (om×Bool×Unit):=
 (Ju a0 a0.activated).bind λy1=>some (y1.1,y1.2.1,())
def K5[dL] :=FB 66 Tryz.f66 XF YB (λx=>FL x.1) [Rx] [] (by kernel_rfl) λx=>by simp only[FL,tm];kernel_rfl
def Kf(a1:Int):Option ((List Int)×Unit):=
 br (decide (a1<0)) (none) (br (decide ((IntKind.wrap .i64 (a1-(IntKind.wrap .i64 (0-0))))>0)) (iteP ((0:Int)=0/\(0:Int)=0) (iteP (0< (IntKind.wrap .i64 (a1-(IntKind.wrap .i64 (0-0))))/\(IntKind.wrap .i64 (a1-(IntKind.wrap .i64 (0-0))))*((8:Nat):Int)<=2 ^ 40) (iteP (0<=(0:Int)/\(0:Int)<=(0:Int)/\(0:Int)<=(((IntKind.wrap .i64 (a1-(IntKind.wrap .i64 (0-0)))).toNat:Nat):Int)) (iteP ((0+(0:Int).toNat)=0/\((0:Int).toNat-(0:Int).toNat)<=(List.replicate (IntKind.wrap .i64 (a1-(IntKind.wrap .i64 (0-0)))).toNat (0:Int)).length) (some (((List.replicate (IntKind.wrap .i64 (a1-(IntKind.wrap .i64 (0-0)))).toNat (0:Int)).take ((0:Int).toNat-(0:Int).toNat)),())) (iteP ((0+(0:Int).toNat)+((0:Int).toNat-(0:Int).toNat)<=(List.replicate (IntKind.wrap .i64 (a1-(IntKind.wrap .i64 (0-0)))).toNat (0:Int)).length) (some ((((List.replicate (IntKind.wrap .i64 (a1-(IntKind.wrap .i64 (0-0)))).toNat (0:Int)).drop (0+(0:Int).toNat)).take ((0:Int).toNat-(0:Int).toNat)),())) none)) none) none) none) (some (([]:List Int),())))
def UK[dL] :=FB 262 Tryz.f262 [.nl,.ty (.i .i64)] L5 (λx=>Kf x.2.1) [] [] (by kernel_rfl) λx=>by simp only[Kf,tm,-eq_self];kernel_rfl
abbrev P7:LX:=⟨⟨[(0,.cl (.ro (.ls (.i .i64)))),OM,(9,.cl (.ro (.ls (.i .i64)))),UU,UT],[],[],0,36⟩,[(.ext 0,⟨[(0,.cl (.ro (.ls (.i .i64)))),OM],[],[],0,36⟩)],[],[0,3,9,10,11],[0,3]⟩
def It(s: (List (List Int)×Int×List (List Int)×Int×Int×Unit)×Unit×Unit):P7.R:=
 br (decide (s.1.2.2.2.2.1<s.1.2.2.2.1)) (iteP (0<=s.1.2.2.2.2.1) ((s.1.2.2.1[s.1.2.2.2.2.1.toNat]?).bind λx6=>br (decide ((IntKind.wrap .i64 (s.1.2.1+(x6.length:Int)))<0)) (none) (some (.inl ((s.1.1,(IntKind.wrap .i64 (s.1.2.1+(x6.length:Int))),s.1.2.2.1,s.1.2.2.2.1,(IntKind.wrap .i64 (s.1.2.2.2.2.1+1)),()),(()),(()))))) none) (some (.inr ((s.1.1,s.1.2.1,()),(()),(()))))
def P1:=md It
def Ua[dL] :=Ik Tryz.f239 [0] P7 It [] [] (by kernel_rfl) λs=>by simp only[It,tm];kernel_rfl
abbrev Pv:LX:=⟨⟨[Y5,(25,.cl (.ro (.ls (.i .i64)))),(26,.cl (.int .i64)),(27,.cl (.int .i64))],[],JA,0,36⟩,[(.ext 2,⟨[Y5],[],JA,0,36⟩)],[],[6,25,26,27],[6]⟩
def Ib(s: (Unit×List (List Int)×Int×Int×Unit)×Unit×List Int×Unit):Pv.R:=
 br (decide (s.1.2.2.2.1<s.1.2.2.1)) (iteP (0<=s.1.2.2.2.1) ((s.1.2.1[s.1.2.2.2.1.toNat]?).bind λx13=>iteP ((s.2.2.1++x13).length*8<=2 ^ 40) (some (.inl (((),s.1.2.1,s.1.2.2.1,(IntKind.wrap .i64 (s.1.2.2.2.1+1)),()),(()),(s.2.2.1++x13),()))) none) none) (some (.inr (((),()),(()),s.2.2)))
def Pe:=md Ib
def SZ[dL] :=Ik Tryz.f239 [1] Pv Ib [] [] (by kernel_rfl) λs=>by simp only[Ib,tm];kernel_rfl
def KQ(a0:List (List Int)):Option ((List Int)×Unit):=
 (P1 ((a0,0,a0,(a0.length:Int),0,()),(()),(()))).bind λe7=>(Kf e7.1.2.1).bind λy8=>(Pe (((),e7.1.1,(e7.1.1.length:Int),0,()),(()),y8.1,())).bind λe14=>some e14.2.2
def VF[dL] :=FB 239 Tryz.f239 [.ty (.ls (.ls (.i .i64)))] L5 (λx=>KQ x.1) [UK] [Ua,SZ] (by kernel_rfl) λx=>by simp only[KQ,tm];kernel_rfl
def J5(a0:List Int)(a1:List Int):Option ((List Int)×Unit):=
 (KQ ([a0,a1]:List (List Int))).bind λy1=>(Jm y1.1).bind λy2=>some (y2.1,())
def Uu[dL] :=FB 180 Tryz.f180 WU L5 (λx=>J5 x.1 x.2.1) [VF,Ta] [] (by kernel_rfl) λx=>by simp only[J5,tm];kernel_rfl
def J3(a0:om):Option ((List Int)×Unit):=
 (G0 a0).bind λy1=>br (!y1.1) (some (([]:List Int),())) ((J5 a0.replicas a0.witnesses).bind λy2=>some (y2.1,()))
def Ql[dL] :=FB 69 Tryz.f69 YA L5 (λx=>J3 x.1) [JJ,Uu] [] (by kernel_rfl) λx=>by simp only[J3,tm];kernel_rfl
def IU(a0:List Int)(a1:Int)(a2:Int):Option (Bool×Unit):=
 (K9 a0).bind λy1=>br y1.1 ((Fs a1 0 4).bind λy2=>br y2.1 ((Fs a2 0 4).bind λy3=>br y3.1 (iteP (0<=a1) ((a0[a1.toNat]?).bind λx4=>iteP (0<=a2) ((a0[a2.toNat]?).bind λx5=>some ((x4==x5),())) none) none) (some (false,()))) (some (false,()))) (some (false,()))
def PI[dL] :=FB 181 Tryz.f181 aaJ [.b] (λx=>IU x.1 x.2.1 x.2.2.1) [Up,Hh] [] (by kernel_rfl) λx=>by simp only[IU,tm];kernel_rfl
def Lw(a0:qQ)(a1:Int):Option (qQ×Bool×Unit):=
 (G1 a0).bind λy1=>(Fs a1 1 20).bind λy2=>br (!y2.1) (some (y1.1,false,())) (br (decide (a0.epoch<0)) (some (y1.1,false,())) (br (decide (a1<=a0.epoch)) (some (y1.1,false,())) (some ((⟨y1.1.up,y1.1.intact,y1.1.version,a1,y1.1.config,y1.1.first,y1.1.log,y1.1.commit,y1.1.learned⟩:qQ),true,()))))
def Wv[dL] :=FB 201 Tryz.f201 VN Zc (λx=>Lw x.1 x.2.1) [PK,Hh] [] (by kernel_rfl) λx=>by simp only[Lw,tm];kernel_rfl
abbrev Ni:LX:=⟨⟨[LW,Re,Tn,QC,(7,.cl (.ptr 2 0)),(38,.cl (.own 0 (.i .i64))),(39,.cl (.int .i64)),(40,.cl (.int .i64))],[KC,Na,XJ],aa8,0,73⟩,[(.ext 0,⟨[(6,.cl (.ptr 0 0)),(7,.cl (.ptr 1 0))],[Na,VP],XK,0,73⟩)],[],[1,2,3,6,7,38,39,40],[6,7]⟩
def GY(s: (Int×Int×Unit×Unit×Unit×Unit×Int×Int×Unit)×(NF×Nh×Nh×Unit)×List Int×List qQ×List Int×List om×List vB×Unit):Ni.R:=
 br (decide (s.1.2.2.2.2.2.2.2.1<s.1.2.2.2.2.2.2.1)) (iteP (0<=s.1.2.2.2.2.2.2.2.1/\s.1.2.2.2.2.2.2.2.1< (s.2.2.1.length:Int)) ((s.2.2.1[s.1.2.2.2.2.2.2.2.1.toNat]?).bind λx37=>iteP (0<=x37/\x37< (s.2.2.2.1.length:Int)) ((s.2.2.2.1[x37.toNat]?).bind λx38=>let j49 (p48:List qQ):Ni.R:=some (.inl ((s.1.1,s.1.2.1,(),(),(),(),s.1.2.2.2.2.2.2.1,(IntKind.wrap .i64 (s.1.2.2.2.2.2.2.2.1+1)),()),s.2.1,s.2.2.1,p48,s.2.2.2.2));br x38.up ((IU s.2.1.1.2.2.1 s.1.1 x37).bind λy39=>br y39.1 (iteP (0<=x37/\x37< (s.2.2.2.1.length:Int)) ((s.2.2.2.1[x37.toNat]?).bind λx40=>(s.2.2.2.1[x37.toNat]?).bind λx41=>iteP (0+x40.config.replicas.length<=x41.config.replicas.length) ((s.2.2.2.1[x37.toNat]?).bind λx42=>iteP (0+x40.config.witnesses.length<=x42.config.witnesses.length) ((s.2.2.2.1[x37.toNat]?).bind λx43=>iteP (0+x40.log.length<=x43.log.length) ((s.2.2.2.1[x37.toNat]?).bind λx44=>iteP (0+x40.learned.length<=x44.learned.length) ((Lw (⟨x40.up,x40.intact,x40.version,x40.epoch,(⟨x40.config.epoch,x40.config.primary,((x41.config.replicas.drop 0).take x40.config.replicas.length),((x42.config.witnesses.drop 0).take x40.config.witnesses.length)⟩:om),x40.first,((x43.log.drop 0).take x40.log.length),x40.commit,((x44.learned.drop 0).take x40.learned.length)⟩:qQ) s.1.2.1).bind λy45=>iteP (0<=x37/\x37< (s.2.2.2.1.length:Int)) ((s.2.2.2.1[x37.toNat]?).bind λ_=>j49 (s.2.2.2.1.set x37.toNat y45.1)) none) none) none) none) none) none) (j49 s.2.2.2.1)) (j49 s.2.2.2.1)) none) none) (some (.inr (((),(),()),s.2.1.2,s.2.2.2)))
def Nf:=md GY
def TT[dL] :=Ik Tryz.f108 [0] Ni GY [PI,Wv] [] (by kernel_rfl) λs=>by simp only[GY,tm];kernel_rfl
def HC(a0:qN)(a1:Int)(a2:Int):Option (qN×Unit):=
 (Gl a0).bind λy1=>(FL a0.master).bind λy2=>(G7 a0).bind λy3=>br (!y3.1) (some (y1.1,())) (br (!y2.2.1) (some (y1.1,())) ((Fs a2 1 (a0.master.configs.length:Int)).bind λy4=>br (!y4.1) (some (y1.1,())) ((J3 y2.1).bind λy5=>(Nf ((a1,a2,(),(),(),(),(y5.1.length:Int),0,()),((a0.now,a0.servers,a0.sides,a0.master.configs,a0.master.activated,a0.masterUp,a0.lease.epoch,a0.lease.holder,a0.lease.ends,a0.places,()),(0,(),(),(),0,0,0,0,0,(),()),(y1.1.now,(),(),(),y1.1.master.activated,y1.1.masterUp,y1.1.lease.epoch,y1.1.lease.holder,y1.1.lease.ends,(),()),()),y5.1,y1.1.servers,y1.1.sides,y1.1.master.configs,y1.1.places,())).bind λe50=>some ((⟨e50.2.1.2.1.1,e50.2.2.1,e50.2.2.2.1,(⟨e50.2.2.2.2.1,e50.2.1.2.1.2.2.2.2.1⟩:kB),e50.2.1.2.1.2.2.2.2.2.1,(⟨e50.2.1.2.1.2.2.2.2.2.2.1,e50.2.1.2.1.2.2.2.2.2.2.2.1,e50.2.1.2.1.2.2.2.2.2.2.2.2.1⟩:vz),e50.2.2.2.2.2.1⟩:qN),()))))
def Vv[dL] :=FB 108 Tryz.f108 TP TQ (λx=>HC x.1 x.2.1 x.2.2.1) [OH,K5,KA,Hh,Ql] [TT] (by kernel_rfl) λx=>by simp only[HC,tm];kernel_rfl
def FK(a0:qN)(a1:Int):Option (Bool×Unit):=
 (G7 a0).bind λy1=>br y1.1 ((Fs a1 0 4).bind λy2=>some (y2.1,())) (some (false,()))
def ML[dL] :=FB 132 Tryz.f132 M8 [.b] (λx=>FK x.1 x.2.1) [KA,Hh] [] (by kernel_rfl) λx=>by simp only[FK,tm];kernel_rfl
def Mc(a0:qN)(a1:Int)(a2:Int)(a3:Int):Option (Bool×Unit):=
 iteP (0<=a2) ((a0.servers[a2.toNat]?).bind λx1=>br x1.up ((IU a0.sides a1 a2).bind λy2=>br y2.1 (some ((x1.config.epoch==a3),())) (some (false,()))) (some (false,()))) none
def Uv[dL] :=FB 245 Tryz.f245 acG [.b] (λx=>Mc x.1 x.2.1 x.2.2.1 x.2.2.2.1) [PI] [] (by kernel_rfl) λx=>by simp only[Mc,tm];kernel_rfl
abbrev QF:LX:=⟨⟨[LW,M9,Oa,QC,(27,.cl (.own 1 (.i .i64))),(28,.cl (.int .i64)),(29,.cl (.int .i64))],[KC,ZR],aa7,0,45⟩,[(.ext 0,⟨[Oa],[],JA,0,45⟩)],[],[1,2,5,6,27,28,29],[5]⟩
def I4(s: (Int×Unit×Unit×Unit×Unit×Int×Int×Unit)×(NF×Sg×Unit)×List Int×List Int×List Int×Unit):QF.R:=
 br (decide (s.1.2.2.2.2.2.2.1<s.1.2.2.2.2.2.1)) (iteP (0<=s.1.2.2.2.2.2.2.1/\s.1.2.2.2.2.2.2.1< (s.2.2.2.1.length:Int)) ((s.2.2.2.1[s.1.2.2.2.2.2.2.1.toNat]?).bind λx21=>(Mc (⟨s.2.1.1.1,s.2.1.1.2.1,s.2.1.1.2.2.1,(⟨s.2.1.1.2.2.2.1,s.2.1.1.2.2.2.2.1⟩:kB),s.2.1.1.2.2.2.2.2.1,(⟨s.2.1.1.2.2.2.2.2.2.1,s.2.1.1.2.2.2.2.2.2.2.1,s.2.1.1.2.2.2.2.2.2.2.2.1⟩:vz),s.2.1.1.2.2.2.2.2.2.2.2.2.1⟩:qN) s.1.1 x21 s.2.1.2.1.1).bind λy22=>br y22.1 (iteP ((s.2.2.1++([x21]:List Int)).length*8<=2 ^ 40) (some (.inl ((s.1.1,(),(),(),(),s.1.2.2.2.2.2.1,(IntKind.wrap .i64 (s.1.2.2.2.2.2.2.1+1)),()),s.2.1,(s.2.2.1++([x21]:List Int)),s.2.2.2))) none) (some (.inl ((s.1.1,(),(),(),(),s.1.2.2.2.2.2.1,(IntKind.wrap .i64 (s.1.2.2.2.2.2.2.1+1)),()),s.2)))) none) (some (.inr (((),()),(()),s.2.2.1,())))
def Qu:=md I4
def U4[dL] :=Ik Tryz.f244 [0] QF I4 [Uv] [] (by kernel_rfl) λs=>by simp only[I4,tm];kernel_rfl
def HY(a0:qN)(a1:Int):Option ((List Int)×Unit):=
 (FL a0.master).bind λy1=>br (!y1.2.1) (some (([]:List Int),())) ((FK a0 a1).bind λy2=>br (!y2.1) (some (([]:List Int),())) ((Qu ((a1,(),(),(),(),(y1.1.replicas.length:Int),0,()),((a0.now,a0.servers,a0.sides,a0.master.configs,a0.master.activated,a0.masterUp,a0.lease.epoch,a0.lease.holder,a0.lease.ends,a0.places,()),(y1.1.epoch,y1.1.primary,(),(),()),()),([]:List Int),y1.1.replicas,y1.1.witnesses,())).bind λe24=>some e24.2.2))
def Ww[dL] :=FB 244 Tryz.f244 M8 L5 (λx=>HY x.1 x.2.1) [K5,ML] [U4] (by kernel_rfl) λx=>by simp only[HY,tm];kernel_rfl
abbrev QE:LX:=⟨⟨[M9,Ob,acQ,UT,Qz],[KC],JA,0,38⟩,[(.ext 0,⟨[Ob],[],[],0,38⟩)],[],[2,5,10,11,12],[5]⟩
def I3(s: (Unit×Int×Unit×Int×Int×Unit)×(NF×Unit)×List Int×Unit):QE.R:=
 br (decide (s.1.2.2.2.2.1<s.1.2.2.2.1)) (iteP (0<=s.1.2.2.2.2.1/\s.1.2.2.2.2.1< (s.2.2.1.length:Int)) ((s.2.2.1[s.1.2.2.2.2.1.toNat]?).bind λx16=>br (decide (s.1.2.1<0)) (some (.inl (((),x16,(),s.1.2.2.2.1,(IntKind.wrap .i64 (s.1.2.2.2.2.1+1)),()),s.2))) (iteP (0<=x16) ((s.2.1.1.2.1[x16.toNat]?).bind λx17=>iteP (0<=s.1.2.1) ((s.2.1.1.2.1[s.1.2.1.toNat]?).bind λx18=>br (decide ((x17.log.length:Int)>(x18.log.length:Int))) (some (.inl (((),x16,(),s.1.2.2.2.1,(IntKind.wrap .i64 (s.1.2.2.2.2.1+1)),()),s.2))) (some (.inl (((),s.1.2.1,(),s.1.2.2.2.1,(IntKind.wrap .i64 (s.1.2.2.2.2.1+1)),()),s.2)))) none) none)) none) (some (.inr ((s.1.2.1,()),(()),(()))))
def N3:=md I3
def U3[dL] :=Ik Tryz.f202 [0] QE I3 [] [] (by kernel_rfl) λs=>by simp only[I3,tm];kernel_rfl
def IE(a0:qN)(a1:Int):Option (Int×Unit):=
 (HY a0 a1).bind λy1=>(N3 (((),(-1),(),(y1.1.length:Int),0,()),((a0.now,a0.servers,a0.sides,a0.master.configs,a0.master.activated,a0.masterUp,a0.lease.epoch,a0.lease.holder,a0.lease.ends,a0.places,()),()),y1.1,())).bind λe20=>some e20.1
def Wt[dL] :=FB 202 Tryz.f202 M8 Kk (λx=>IE x.1 x.2.1) [Ww] [U3] (by kernel_rfl) λx=>by simp only[IE,tm];kernel_rfl
def JC(a0:qQ):Option ((List sf)×Unit):=
 br (decide (a0.first<0)) (some (([]:List sf),())) ((Fs a0.commit a0.first (IntKind.wrap .i64 (a0.first+(a0.log.length:Int)))).bind λy1=>br (!y1.1) (some (([]:List sf),())) (iteP (0<=(0:Int)/\(0:Int)<=(IntKind.wrap .i64 (a0.commit-a0.first))/\(IntKind.wrap .i64 (a0.commit-a0.first))<=(a0.log.length:Int)) ((Gb ((a0.log.drop (0:Int).toNat).take ((IntKind.wrap .i64 (a0.commit-a0.first)).toNat-(0:Int).toNat))).bind λy2=>some (y2.1,())) none))
def TA[dL] :=FB 267 Tryz.f267 We VO (λx=>JC x.1) [Hh,Jk] [] (by kernel_rfl) λx=>by simp only[JC,tm];kernel_rfl
def Jn(a0:qQ)(a1:Int):Option (Bool×Unit):=
 (IH a0.config.replicas a1).bind λy1=>some (y1.1,())
def Tb[dL] :=FB 125 Tryz.f125 VN [.b] (λx=>Jn x.1 x.2.1) [Ow] [] (by kernel_rfl) λx=>by simp only[Jn,tm];kernel_rfl
def Iw(a0:qQ)(a1:Int):Option ((List sf)×Unit):=
 (JC a0).bind λy1=>(Jn a0 a1).bind λy2=>br y2.1 (br (decide ((y1.1.length:Int)>(a0.learned.length:Int))) (some (y1.1,())) ((Gb a0.learned).bind λy4=>some (y4.1,()))) ((Gb a0.learned).bind λy5=>some (y5.1,()))
def TF[dL] :=FB 247 Tryz.f247 VN VO (λx=>Iw x.1 x.2.1) [TA,Tb,Jk] [] (by kernel_rfl) λx=>by simp only[Iw,tm];kernel_rfl
def Jh(a1:Int):Option ((List sf)×Unit):=
 br (decide (a1<0)) (none) (br (decide ((IntKind.wrap .i64 (a1-(IntKind.wrap .i64 (0-0))))>0)) (iteP ((0:Int)=0/\(0:Int)=0) (iteP (0< (IntKind.wrap .i64 (a1-(IntKind.wrap .i64 (0-0))))/\(IntKind.wrap .i64 (a1-(IntKind.wrap .i64 (0-0))))*((56:Nat):Int)<=2 ^ 40) (iteP (0<=(0:Int)/\(0:Int)<=(0:Int)/\(0:Int)<=(((IntKind.wrap .i64 (a1-(IntKind.wrap .i64 (0-0)))).toNat:Nat):Int)) (iteP ((0+(0:Int).toNat)=0/\((0:Int).toNat-(0:Int).toNat)<=(List.replicate (IntKind.wrap .i64 (a1-(IntKind.wrap .i64 (0-0)))).toNat (⟨0,(⟨0,0,0,0,0,0⟩:Op)⟩:sf)).length) (some (((List.replicate (IntKind.wrap .i64 (a1-(IntKind.wrap .i64 (0-0)))).toNat (⟨0,(⟨0,0,0,0,0,0⟩:Op)⟩:sf)).take ((0:Int).toNat-(0:Int).toNat)),())) none) none) none) none) (some (([]:List sf),())))
def SH[dL] :=FB 285 Tryz.f285 [.nl,.ty (.i .i64)] VO (λx=>Jh x.2.1) [] [] (by kernel_rfl) λx=>by simp only[Jh,tm,-eq_self];kernel_rfl
abbrev OD:LX:=⟨⟨[(0,.cl (.ro (.ls (.st .entry)))),OM,(9,.cl (.ro (.ls (.st .entry)))),UU,UT],[],[],0,36⟩,[(.ext 0,⟨[(0,.cl (.ro (.ls (.st .entry)))),OM],[],[],0,36⟩)],[],[0,3,9,10,11],[0,3]⟩
def HJ(s: (List (List sf)×Int×List (List sf)×Int×Int×Unit)×Unit×Unit):OD.R:=
 br (decide (s.1.2.2.2.2.1<s.1.2.2.2.1)) (iteP (0<=s.1.2.2.2.2.1) ((s.1.2.2.1[s.1.2.2.2.2.1.toNat]?).bind λx6=>br (decide ((IntKind.wrap .i64 (s.1.2.1+(x6.length:Int)))<0)) (none) (some (.inl ((s.1.1,(IntKind.wrap .i64 (s.1.2.1+(x6.length:Int))),s.1.2.2.1,s.1.2.2.2.1,(IntKind.wrap .i64 (s.1.2.2.2.2.1+1)),()),(()),(()))))) none) (some (.inr ((s.1.1,s.1.2.1,()),(()),(()))))
def Oy:=md HJ
def Ss[dL] :=Ik Tryz.f266 [0] OD HJ [] [] (by kernel_rfl) λs=>by simp only[HJ,tm];kernel_rfl
abbrev Ol:LX:=⟨⟨[Wg,(25,.cl (.ro (.ls (.st .entry)))),(26,.cl (.int .i64)),(27,.cl (.int .i64))],[],ZT,0,36⟩,[(.ext 2,⟨[Wg],[],ZT,0,36⟩)],[],[6,25,26,27],[6]⟩
def Hz(s: (Unit×List (List sf)×Int×Int×Unit)×Unit×List sf×Unit):Ol.R:=
 br (decide (s.1.2.2.2.1<s.1.2.2.1)) (iteP (0<=s.1.2.2.2.1) ((s.1.2.1[s.1.2.2.2.1.toNat]?).bind λx13=>iteP ((s.2.2.1++x13).length*56<=2 ^ 40) (some (.inl (((),s.1.2.1,s.1.2.2.1,(IntKind.wrap .i64 (s.1.2.2.2.1+1)),()),(()),(s.2.2.1++x13),()))) none) none) (some (.inr (((),()),(()),s.2.2)))
def N7:=md Hz
def RK[dL] :=Ik Tryz.f266 [1] Ol Hz [] [] (by kernel_rfl) λs=>by simp only[Hz,tm];kernel_rfl
def IB(a0:List (List sf)):Option ((List sf)×Unit):=
 (Oy ((a0,0,a0,(a0.length:Int),0,()),(()),(()))).bind λe7=>(Jh e7.1.2.1).bind λy8=>(N7 (((),e7.1.1,(e7.1.1.length:Int),0,()),(()),y8.1,())).bind λe14=>some e14.2.2
def TL[dL] :=FB 266 Tryz.f266 [.ty (.ls (.ls (.st .entry)))] VO (λx=>IB x.1) [SH] [Ss,RK] (by kernel_rfl) λx=>by simp only[IB,tm];kernel_rfl
abbrev Pw:LX:=⟨⟨[QB,aaP,Qz,aaS],[],[],0,26⟩,[(.ret,⟨[US],[],[],0,26⟩),(.ext 0,⟨[Ph],[],[],0,26⟩)],[],[0,1,12,13],[4]⟩
def Ic(s:ac2×Unit×Unit):Pw.R:=
 br (decide (s.1.2.2.2.1<s.1.2.2.1)) (iteP (0<=s.1.2.2.2.1) ((s.1.1[s.1.2.2.2.1.toNat]?).bind λx5=>iteP (0<=s.1.2.2.2.1) ((s.1.2.1[s.1.2.2.2.1.toNat]?).bind λx6=>br (!((x5.epoch==x6.epoch)&&((x5.op.client==x6.op.client)&&((x5.op.seq==x6.op.seq)&&((x5.op.kind==x6.op.kind)&&((x5.op.object==x6.op.object)&&((x5.op.old==x6.op.old)&&((x5.op.value==x6.op.value)&&true)))))))) (some (.inr (.inl ((false,()),(()),(()))))) (some (.inl ((s.1.1,s.1.2.1,s.1.2.2.1,(IntKind.wrap .i64 (s.1.2.2.2.1+1)),()),(()),(()))))) none) none) (some (.inr (.inr (((),()),(()),(())))))
def Mu:=md Ic
def S4[dL] :=Ik Tryz.f176 [0] Pw Ic [] [] (by kernel_rfl) λs=>by simp only[Ic,tm];kernel_rfl
def HG(a0:List sf)(a1:List sf):Option (Bool×Unit):=
 br (!((a0.length:Int)==(a1.length:Int))) (some (false,())) ((Mu ((a0,a1,(a0.length:Int),0,()),(()),(()))).bind λe7=>Sum.elim (λe7_0=>some e7_0.1) (λ_=>some (true,())) e7)
def Qs[dL] :=FB 176 Tryz.f176 Y4 [.b] (λx=>HG x.1 x.2.1) [] [S4] (by kernel_rfl) λx=>by simp only[HG,tm];kernel_rfl
def NN(a0:List sf)(a1:Int)(a2:List sf):Option ((List sf)×Bool×Unit):=
 (JY a0).bind λy1=>br (!y1.1) (some (([]:List sf),false,())) ((NP a1 a2).bind λy2=>br (!y2.1) (some (([]:List sf),false,())) (br (decide (a1>(a0.length:Int))) (some (([]:List sf),false,())) (iteP (0<=(if (IntKind.wrap .i64 ((a0.length:Int)-a1))< (a2.length:Int) then (IntKind.wrap .i64 ((a0.length:Int)-a1)) else (a2.length:Int))/\(if (IntKind.wrap .i64 ((a0.length:Int)-a1))< (a2.length:Int) then (IntKind.wrap .i64 ((a0.length:Int)-a1)) else (a2.length:Int))<=(a2.length:Int)/\(a2.length:Int)<=(a2.length:Int)) ((IB ([a0,((a2.drop (if (IntKind.wrap .i64 ((a0.length:Int)-a1))< (a2.length:Int) then (IntKind.wrap .i64 ((a0.length:Int)-a1)) else (a2.length:Int)).toNat).take ((a2.length:Int).toNat-(if (IntKind.wrap .i64 ((a0.length:Int)-a1))< (a2.length:Int) then (IntKind.wrap .i64 ((a0.length:Int)-a1)) else (a2.length:Int)).toNat))]:List (List sf))).bind λy3=>iteP (0<=a1/\a1<=(IntKind.wrap .i64 (a1+(if (IntKind.wrap .i64 ((a0.length:Int)-a1))< (a2.length:Int) then (IntKind.wrap .i64 ((a0.length:Int)-a1)) else (a2.length:Int))))/\(IntKind.wrap .i64 (a1+(if (IntKind.wrap .i64 ((a0.length:Int)-a1))< (a2.length:Int) then (IntKind.wrap .i64 ((a0.length:Int)-a1)) else (a2.length:Int))))<=(a0.length:Int)) (iteP (0<=(0:Int)/\(0:Int)<=(if (IntKind.wrap .i64 ((a0.length:Int)-a1))< (a2.length:Int) then (IntKind.wrap .i64 ((a0.length:Int)-a1)) else (a2.length:Int))/\(if (IntKind.wrap .i64 ((a0.length:Int)-a1))< (a2.length:Int) then (IntKind.wrap .i64 ((a0.length:Int)-a1)) else (a2.length:Int))<=(a2.length:Int)) ((HG ((a0.drop a1.toNat).take ((IntKind.wrap .i64 (a1+(if (IntKind.wrap .i64 ((a0.length:Int)-a1))< (a2.length:Int) then (IntKind.wrap .i64 ((a0.length:Int)-a1)) else (a2.length:Int)))).toNat-a1.toNat)) ((a2.drop (0:Int).toNat).take ((if (IntKind.wrap .i64 ((a0.length:Int)-a1))< (a2.length:Int) then (IntKind.wrap .i64 ((a0.length:Int)-a1)) else (a2.length:Int)).toNat-(0:Int).toNat))).bind λy4=>br (!y4.1) (some (([]:List sf),false,())) ((JY y3.1).bind λy5=>br (!y5.1) (some (([]:List sf),false,())) (some (y3.1,true,())))) none) none) none)))
def Yd[dL] :=FB 246 Tryz.f246 acE ZP (λx=>NN x.1 x.2.1 x.2.2.1) [RZ,Xn,TL,Qs] [] (by kernel_rfl) λx=>by simp only[NN,tm];kernel_rfl
abbrev Nj:LX:=⟨⟨[LW,M9,QC,Za,Rf,(12,.cl (.ptr 2 0)),aaT,aaU,aaV,(52,.cl (.ro (.st .server))),(53,.cl (.int .i64)),(54,.cl (.int .i64))],[KC,aa5,aa3],ZS,0,99⟩,[(.ext 2,⟨[LW,M9,QC,Za,Rf,aaT,aaU,aaV],[KC,aa5],ZS,0,99⟩)],[],[1,2,6,8,9,12,33,34,35,52,53,54],[1,2,6,8,9,33,34,35]⟩
def Iq(s: (Int×Unit×Unit×Unit×Bool×Unit×Unit×Int×Int×List qQ×Int×Int×Unit)×(NF×Sg×aaX×Unit)×List sf×List Int×List Int×Unit):Nj.R:=
 br (decide (s.1.2.2.2.2.2.2.2.2.2.2.2.1<s.1.2.2.2.2.2.2.2.2.2.2.1)) (iteP (0<=s.1.2.2.2.2.2.2.2.2.2.2.2.1) ((s.1.2.2.2.2.2.2.2.2.2.1[s.1.2.2.2.2.2.2.2.2.2.2.2.1.toNat]?).bind λx59=>let j65 (p63:List sf) (p64:Bool):Nj.R:=some (.inl ((s.1.1,(),(),(),p64,(),(),s.1.2.2.2.2.2.2.2.1,s.1.2.2.2.2.2.2.2.2.1,s.1.2.2.2.2.2.2.2.2.2.1,s.1.2.2.2.2.2.2.2.2.2.2.1,(IntKind.wrap .i64 (s.1.2.2.2.2.2.2.2.2.2.2.2.1+1)),()),s.2.1,p63,s.2.2.2));br (!x59.up) (j65 s.2.2.1 s.1.2.2.2.2.1) ((IU s.2.1.1.2.2.1 s.1.1 s.1.2.2.2.2.2.2.2.2.2.2.2.1).bind λy60=>br (!y60.1) (j65 s.2.2.1 s.1.2.2.2.2.1) ((Iw x59 s.1.2.2.2.2.2.2.2.2.2.2.2.1).bind λy61=>(NN y61.1 s.2.1.2.2.1.2.2.2.2.2.2.2.2.1 s.2.1.2.2.1.2.2.2.2.2.2.2.2.2.1).bind λy62=>br y62.2.1 (br (!s.1.2.2.2.2.1) (j65 y62.1 true) (br (decide ((y62.1.length:Int)>(s.2.2.1.length:Int))) (j65 y62.1 true) (j65 s.2.2.1 s.1.2.2.2.2.1))) (j65 s.2.2.1 s.1.2.2.2.2.1)))) none) (some (.inr ((s.1.1,(),(),(),s.1.2.2.2.2.1,(),s.1.2.2.2.2.2.2.2.1,s.1.2.2.2.2.2.2.2.2.1,()),(s.2.1.1,s.2.1.2.1,()),s.2.2)))
def PZ:=md Iq
def TU[dL] :=Ik Tryz.f204 [0,0] Nj Iq [PI,TF,Yd] [] (by kernel_rfl) λs=>by simp only[Iq,tm];kernel_rfl
abbrev QG:LX:=⟨⟨[LW,M9,QC,Za,Rf,aaT,aaU,aaV],[KC,aa5],ZS,0,99⟩,[(.ext 0,⟨[Za,Rf],[],ZT,0,99⟩)],[],[1,2,6,8,9,33,34,35],[8,9]⟩
def I5(s: (Int×Unit×Unit×Unit×Bool×Unit×Int×Int×Unit)×(NF×Sg×Unit)×List sf×List Int×List Int×Unit):QG.R:=
 br (decide (s.1.2.2.2.2.2.2.2.1<s.1.2.2.2.2.2.2.1)) (iteP (0<=s.1.2.2.2.2.2.2.2.1/\s.1.2.2.2.2.2.2.2.1< (s.2.2.2.1.length:Int)) ((s.2.2.2.1[s.1.2.2.2.2.2.2.2.1.toNat]?).bind λx22=>(Mc (⟨s.2.1.1.1,s.2.1.1.2.1,s.2.1.1.2.2.1,(⟨s.2.1.1.2.2.2.1,s.2.1.1.2.2.2.2.1⟩:kB),s.2.1.1.2.2.2.2.2.1,(⟨s.2.1.1.2.2.2.2.2.2.1,s.2.1.1.2.2.2.2.2.2.2.1,s.2.1.1.2.2.2.2.2.2.2.2.1⟩:vz),s.2.1.1.2.2.2.2.2.2.2.2.2.1⟩:qN) s.1.1 x22 s.2.1.2.1.1).bind λy23=>br (!y23.1) (some (.inl ((s.1.1,(),(),(),s.1.2.2.2.2.1,(),s.1.2.2.2.2.2.2.1,(IntKind.wrap .i64 (s.1.2.2.2.2.2.2.2.1+1)),()),s.2))) (iteP (0<=x22) ((s.2.1.1.2.1[x22.toNat]?).bind λx24=>(PZ ((s.1.1,(),(),(),s.1.2.2.2.2.1,(),(),s.1.2.2.2.2.2.2.1,s.1.2.2.2.2.2.2.2.1,s.2.1.1.2.1,(s.2.1.1.2.1.length:Int),0,()),(s.2.1.1,s.2.1.2.1,(x24.up,x24.intact,x24.version,x24.epoch,x24.config.epoch,x24.config.primary,x24.config.replicas,x24.config.witnesses,x24.first,x24.log,x24.commit,x24.learned,()),()),s.2.2)).bind λe66=>some (.inl ((e66.1.1,(),(),(),e66.1.2.2.2.2.1,(),e66.1.2.2.2.2.2.2.1,(IntKind.wrap .i64 (e66.1.2.2.2.2.2.2.2.1+1)),()),e66.2))) none)) none) (some (.inr (((),s.1.2.2.2.2.1,()),(()),s.2.2.1,())))
def Qv:=md I5
def U5[dL] :=Ik Tryz.f204 [0] QG I5 [Uv] [TU] (by kernel_rfl) λs=>by simp only[I5,tm];kernel_rfl
def IJ(a0:qN)(a1:Int):Option ((List sf)×Bool×Unit):=
 (FL a0.master).bind λy1=>br (!y1.2.1) (some (([]:List sf),false,())) ((FK a0 a1).bind λy2=>br (!y2.1) (some (([]:List sf),false,())) ((Qv ((a1,(),(),(),false,(),(y1.1.witnesses.length:Int),0,()),((a0.now,a0.servers,a0.sides,a0.master.configs,a0.master.activated,a0.masterUp,a0.lease.epoch,a0.lease.holder,a0.lease.ends,a0.places,()),(y1.1.epoch,y1.1.primary,(),(),()),()),([]:List sf),y1.1.witnesses,y1.1.replicas,())).bind λe86=>br (!e86.1.2.1) (some (([]:List sf),false,())) (some (e86.2.2.1,true,()))))
def Wx[dL] :=FB 204 Tryz.f204 M8 ZP (λx=>IJ x.1 x.2.1) [K5,ML] [U5] (by kernel_rfl) λx=>by simp only[IJ,tm];kernel_rfl
def II(a0:qN)(a1:Int):Option ((List sf)×Bool×Unit):=
 (FK a0 a1).bind λy1=>br (!y1.1) (some (([]:List sf),false,())) (br (a0.master.activated==0) (some (([]:List sf),true,())) ((IE a0 a1).bind λy2=>br (decide (y2.1≥0)) (iteP (0<=y2.1) ((a0.servers[y2.1.toNat]?).bind λx3=>(Gb x3.log).bind λy4=>some (y4.1,true,())) none) ((IJ a0 a1).bind λy5=>some (y5.1,y5.2.1,()))))
def S9[dL] :=FB 109 Tryz.f109 M8 ZP (λx=>II x.1 x.2.1) [ML,Wt,Jk,Wx] [] (by kernel_rfl) λx=>by simp only[II,tm];kernel_rfl
def PF(a0:qN)(a1:Int):Option (Bool×Unit):=
 iteP (0<=a1) ((a0.servers[a1.toNat]?).bind λx1=>br x1.up (iteP (0<=a1) ((a0.sides[a1.toNat]?).bind λx2=>some ((x2==0),())) none) (some (false,()))) none
def Yf[dL] :=FB 76 Tryz.f76 M8 [.b] (λx=>PF x.1 x.2.1) [] [] (by kernel_rfl) λx=>by simp only[PF,tm];kernel_rfl
def KI(a0:Int)(a1:qN):Option (Bool×Unit):=
 (PF a1 a0).bind λy1=>some ((!y1.1),())
def Vo[dL] :=FB 110 Tryz.f110 acL [.b] (λx=>KI x.1 x.2.1) [Yf] [] (by kernel_rfl) λx=>by simp only[KI,tm];kernel_rfl
abbrev IY:LX:=⟨⟨[Pk,(1,.fn 110 [.pro (.st .cluster)]),Ot,Pj],[],[],0,19⟩,[(.ret,⟨[Oq],[],[],0,19⟩),(.ext 0,⟨[Ph],[],[],0,19⟩)],[],[0,1,7,8],[4]⟩
def FP(s: (List Int×(qN×Unit)×Int×Int×Unit)×Unit×Unit):IY.R:=
 br (decide (s.1.2.2.2.1<s.1.2.2.1)) (iteP (0<=s.1.2.2.2.1) ((s.1.1[s.1.2.2.2.1.toNat]?).bind λx5=>(KI x5 s.1.2.1.1).bind λy6=>br y6.1 (some (.inr (.inl (s.1.2.2.2,(()),(()))))) (some (.inl ((s.1.1,s.1.2.1,s.1.2.2.1,(IntKind.wrap .i64 (s.1.2.2.2.1+1)),()),(()),(()))))) none) (some (.inr (.inr (((),()),(()),(())))))
def Hp:=md FP
def L6[dL] :=Ik Tryz.f179 [0] IY FP [Vo] [] (by kernel_rfl) λs=>by simp only[FP,tm];kernel_rfl
def GO(a0:List Int)(a1_0:qN):Option (Int×Unit):=
 (Hp ((a0,(a1_0,()),(a0.length:Int),0,()),(()),(()))).bind λe7=>Sum.elim (λe7_0=>some e7_0.1) (λ_=>some ((-1),())) e7
def M5[dL] :=FB 179 Tryz.f179 [.ty (.ls (.i .i64)),.fn 110 TQ] Kk (λx=>GO x.1 x.2.1.1) [] [L6] (by kernel_rfl) λx=>by simp only[GO,tm];kernel_rfl
def FG(a0:List Int)(a1_0:qN):Option (Bool×Unit):=
 (GO a0 a1_0).bind λy1=>some ((decide (y1.1≥0)),())
def LM[dL] :=FB 68 Tryz.f68 [.ty (.ls (.i .i64)),.fn 110 TQ] [.b] (λx=>FG x.1 x.2.1.1) [M5] [] (by kernel_rfl) λx=>by simp only[FG,tm];kernel_rfl
def MI(a0:Op):Option (Bool×Unit):=
 some ((a0.kind==2),())
def Vr[dL] :=FB 136 Tryz.f136 XE [.b] (λx=>MI x.1) [] [] (by kernel_rfl) λx=>by simp only[MI,tm];kernel_rfl
def JZ(a0:sf):Option (Bool×Unit):=
 (MI a0.op).bind λy1=>some (y1.1,())
def R0[dL] :=FB 206 Tryz.f206 [.ty (.st .entry)] [.b] (λx=>JZ x.1) [Vr] [] (by kernel_rfl) λx=>by simp only[JZ,tm];kernel_rfl
abbrev HM:LX:=⟨⟨[QB,(1,.cl (.fc 206)),Ot,Pj],[],[],0,19⟩,[(.ret,⟨[Oq],[],[],0,19⟩),(.ext 0,⟨[Ph],[],[],0,19⟩)],[],[0,1,7,8],[4]⟩
def Fw(s:ac0×Unit×Unit):HM.R:=
 br (decide (s.1.2.2.2.1<s.1.2.2.1)) (iteP (0<=s.1.2.2.2.1) ((s.1.1[s.1.2.2.2.1.toNat]?).bind λx4=>(JZ x4).bind λy5=>br y5.1 (some (.inr (.inl (s.1.2.2.2,(()),(()))))) (some (.inl ((s.1.1,(),s.1.2.2.1,(IntKind.wrap .i64 (s.1.2.2.2.1+1)),()),(()),(()))))) none) (some (.inr (.inr (((),()),(()),(())))))
def GJ:=md Fw
def KD[dL] :=Ik Tryz.f144 [0] HM Fw [R0] [] (by kernel_rfl) λs=>by simp only[Fw,tm];kernel_rfl
def Ge(a0:List sf):Option (Int×Unit):=
 (GJ ((a0,(),(a0.length:Int),0,()),(()),(()))).bind λe6=>Sum.elim (λe6_0=>some e6_0.1) (λ_=>some ((-1),())) e6
def KU[dL] :=FB 144 Tryz.f144 acM Kk (λx=>Ge x.1) [] [KD] (by kernel_rfl) λx=>by simp only[Ge,tm];kernel_rfl
def F3(a0:List sf):Option (Bool×Unit):=
 (Ge a0).bind λy1=>some ((decide (y1.1≥0)),())
def Kh[dL] :=FB 205 Tryz.f205 acM [.b] (λx=>F3 x.1) [KU] [] (by kernel_rfl) λx=>by simp only[F3,tm];kernel_rfl
def Jc(a0:List sf):Option (Bool×Unit):=
 (F3 a0).bind λy1=>some (y1.1,())
def Qm[dL] :=FB 111 Tryz.f111 Sd [.b] (λx=>Jc x.1) [Kh] [] (by kernel_rfl) λx=>by simp only[Jc,tm];kernel_rfl
def MG(a0:Int)(a1:qN):Option (Bool×Unit):=
 iteP (0<=a0) ((a1.servers[a0.toNat]?).bind λx1=>some ((x1.version==1),())) none
def Vp[dL] :=FB 112 Tryz.f112 acL [.b] (λx=>MG x.1 x.2.1) [] [] (by kernel_rfl) λx=>by simp only[MG,tm];kernel_rfl
abbrev IZ:LX:=⟨⟨[Pk,(1,.fn 112 [.pro (.st .cluster)]),Ot,Pj],[],[],0,19⟩,[(.ret,⟨[Oq],[],[],0,19⟩),(.ext 0,⟨[Ph],[],[],0,19⟩)],[],[0,1,7,8],[4]⟩
def FA(s: (List Int×(qN×Unit)×Int×Int×Unit)×Unit×Unit):IZ.R:=
 br (decide (s.1.2.2.2.1<s.1.2.2.1)) (iteP (0<=s.1.2.2.2.1) ((s.1.1[s.1.2.2.2.1.toNat]?).bind λx5=>(MG x5 s.1.2.1.1).bind λy6=>br y6.1 (some (.inr (.inl (s.1.2.2.2,(()),(()))))) (some (.inl ((s.1.1,s.1.2.1,s.1.2.2.1,(IntKind.wrap .i64 (s.1.2.2.2.1+1)),()),(()),(()))))) none) (some (.inr (.inr (((),()),(()),(())))))
def Hq:=md FA
def L7[dL] :=Ik Tryz.f179 [0] IZ FA [Vp] [] (by kernel_rfl) λs=>by simp only[FA,tm];kernel_rfl
def GP(a0:List Int)(a1_0:qN):Option (Int×Unit):=
 (Hq ((a0,(a1_0,()),(a0.length:Int),0,()),(()),(()))).bind λe7=>Sum.elim (λe7_0=>some e7_0.1) (λ_=>some ((-1),())) e7
def M6[dL] :=FB 179 Tryz.f179 [.ty (.ls (.i .i64)),.fn 112 TQ] Kk (λx=>GP x.1 x.2.1.1) [] [L7] (by kernel_rfl) λx=>by simp only[GP,tm];kernel_rfl
def FH(a0:List Int)(a1_0:qN):Option (Bool×Unit):=
 (GP a0 a1_0).bind λy1=>some ((decide (y1.1≥0)),())
def LN[dL] :=FB 68 Tryz.f68 [.ty (.ls (.i .i64)),.fn 112 TQ] [.b] (λx=>FH x.1 x.2.1.1) [M6] [] (by kernel_rfl) λx=>by simp only[FH,tm];kernel_rfl
def OV(a0:List sf):Option (Int×(List sf)×Unit):=
 (JY a0).bind λy1=>br (!y1.1) (some (0,([]:List sf),())) (iteP (0<=(if (IntKind.wrap .i64 ((a0.length:Int)-3))>0 then (IntKind.wrap .i64 ((a0.length:Int)-3)) else 0)/\(if (IntKind.wrap .i64 ((a0.length:Int)-3))>0 then (IntKind.wrap .i64 ((a0.length:Int)-3)) else 0)<=(a0.length:Int)/\(a0.length:Int)<=(a0.length:Int)) ((Gb ((a0.drop (if (IntKind.wrap .i64 ((a0.length:Int)-3))>0 then (IntKind.wrap .i64 ((a0.length:Int)-3)) else 0).toNat).take ((a0.length:Int).toNat-(if (IntKind.wrap .i64 ((a0.length:Int)-3))>0 then (IntKind.wrap .i64 ((a0.length:Int)-3)) else 0).toNat))).bind λy2=>some ((if (IntKind.wrap .i64 ((a0.length:Int)-3))>0 then (IntKind.wrap .i64 ((a0.length:Int)-3)) else 0),y2.1,())) none)
def ZD[dL] :=FB 209 Tryz.f209 Sd aa0 (λx=>OV x.1) [RZ,Jk] [] (by kernel_rfl) λx=>by simp only[OV,tm];kernel_rfl
def JE(a0:qQ)(a1:om)(a2:Int)(a3:List sf):Option (qQ×Bool×Unit):=
 (Lu a1 a2).bind λy1=>br (y1.1==0) ((G1 a0).bind λy2=>some (y2.1,false,())) ((JY a3).bind λy3=>br (!y3.1) ((G1 a0).bind λy4=>some (y4.1,false,())) ((Fs a0.version 1 2).bind λy5=>br (!y5.1) ((G1 a0).bind λy6=>some (y6.1,false,())) ((Fs a0.epoch 0 a1.epoch).bind λy7=>br (!y7.1) ((G1 a0).bind λy8=>some (y8.1,false,())) ((J6 a3).bind λy9=>br (decide (y9.1>a1.epoch)) ((G1 a0).bind λy10=>some (y10.1,false,())) (let j18:Option (qQ×Bool×Unit):=(GF a1).bind λy13=>(Gb a3).bind λy14=>br (y1.1==3) ((OV a3).bind λy15=>some ((⟨a0.up,true,a0.version,a1.epoch,y13.1,y15.1,y15.2.1,(a3.length:Int),([]:List sf)⟩:qQ),true,())) (some ((⟨a0.up,true,a0.version,a1.epoch,y13.1,0,y14.1,(a3.length:Int),([]:List sf)⟩:qQ),true,()));br (a0.version==1) ((Jc a3).bind λy11=>br y11.1 ((G1 a0).bind λy12=>some (y12.1,false,())) (j18)) (j18))))))
def TD[dL] :=FB 113 Tryz.f113 acF Zc (λx=>JE x.1 x.2.1 x.2.2.1 x.2.2.2.1) [Us,PK,RZ,Hh,Qn,Qm,LK,Jk,ZD] [] (by kernel_rfl) λx=>by simp only[JE,tm];kernel_rfl
def I9(a0:kB)(a1:Int):Option (kB×Bool×Unit):=
 (Jv a0).bind λy1=>(H2 a0).bind λy2=>br (!y2.1) (some (y1.1,false,())) (br (!(a1==(a0.configs.length:Int))) (some (y1.1,false,())) (br (decide (a1<=a0.activated)) (some (y1.1,false,())) (some ((⟨y1.1.configs,a1⟩:kB),true,()))))
def Sx[dL] :=FB 114 Tryz.f114 Y2 Zb (λx=>I9 x.1 x.2.1) [PJ,MJ] [] (by kernel_rfl) λx=>by simp only[I9,tm];kernel_rfl
abbrev Ri:LX:=⟨⟨[M9,Tm,aaR,Tq,(101,.cl (.own 1 (.i .i64))),(102,.cl (.int .i64)),(103,.cl (.int .i64))],[Na,aa2,[.int .i64,.own 4 (.st .server),.own 5 (.i .i64),.own 6 (.st .config),.int .i64,.int .i64,.int .i64,.int .i64,.int .i64,.own 7 (.st .place)]],[.st .entry,.i .i64,.i .i64,.i .i64,.st .server,.i .i64,.st .config,.st .place],0,136⟩,[(.ext 1,⟨[M9,Tm,aaR],[Na,aa4,VQ],[.i .i64,.i .i64,.st .server,.i .i64,.st .config,.st .place],0,136⟩)],[],[2,4,6,7,101,102,103],[2,4,6]⟩
def JN(s: (Unit×Unit×Unit×Unit×Unit×Int×Int×Unit)×(Nh×Sg×Nh×Unit)×List sf×List Int×List Int×List Int×List qQ×List Int×List om×List vB×Unit):Ri.R:=
 br (decide (s.1.2.2.2.2.2.2.1<s.1.2.2.2.2.2.1)) (iteP (0<=s.1.2.2.2.2.2.2.1/\s.1.2.2.2.2.2.2.1< (s.2.2.2.1.length:Int)) ((s.2.2.2.1[s.1.2.2.2.2.2.2.1.toNat]?).bind λx44=>iteP (0<=x44/\x44< (s.2.2.2.2.2.2.1.length:Int)) ((s.2.2.2.2.2.2.1[x44.toNat]?).bind λx45=>(s.2.2.2.2.2.2.1[x44.toNat]?).bind λx46=>iteP (0+x45.config.replicas.length<=x46.config.replicas.length) ((s.2.2.2.2.2.2.1[x44.toNat]?).bind λx47=>iteP (0+x45.config.witnesses.length<=x47.config.witnesses.length) ((s.2.2.2.2.2.2.1[x44.toNat]?).bind λx48=>iteP (0+x45.log.length<=x48.log.length) ((s.2.2.2.2.2.2.1[x44.toNat]?).bind λx49=>iteP (0+x45.learned.length<=x49.learned.length) ((JE (⟨x45.up,x45.intact,x45.version,x45.epoch,(⟨x45.config.epoch,x45.config.primary,((x46.config.replicas.drop 0).take x45.config.replicas.length),((x47.config.witnesses.drop 0).take x45.config.witnesses.length)⟩:om),x45.first,((x48.log.drop 0).take x45.log.length),x45.commit,((x49.learned.drop 0).take x45.learned.length)⟩:qQ) (⟨s.2.1.2.1.1,s.2.1.2.1.2.1,s.2.2.2.2.1,s.2.2.2.2.2.1⟩:om) x44 s.2.2.1).bind λy50=>iteP (0<=x44/\x44< (s.2.2.2.2.2.2.1.length:Int)) ((s.2.2.2.2.2.2.1[x44.toNat]?).bind λ_=>some (.inl (((),(),(),(),(),s.1.2.2.2.2.2.1,(IntKind.wrap .i64 (s.1.2.2.2.2.2.2.1+1)),()),s.2.1,s.2.2.1,s.2.2.2.1,s.2.2.2.2.1,s.2.2.2.2.2.1,(s.2.2.2.2.2.2.1.set x44.toNat y50.1),s.2.2.2.2.2.2.2))) none) none) none) none) none) none) none) (some (.inr (((),(),(),()),s.2.1,s.2.2.2.2)))
def Rc:=md JN
def VT[dL] :=Ik Tryz.f33 [0] Ri JN [TD] [] (by kernel_rfl) λs=>by simp only[JN,tm];kernel_rfl
def NM(a0:qN):Option (qN×Int×Unit):=
 (Lt a0.master).bind λy1=>(G7 a0).bind λy2=>br (!y2.1) ((Gl a0).bind λy3=>some (y3.1,1,())) (br (!y1.2.1) ((Gl a0).bind λy4=>some (y4.1,1,())) (br (decide (y1.1.epoch<=a0.master.activated)) ((Gl a0).bind λy5=>some (y5.1,1,())) ((JR a0).bind λy6=>br (!y6.1) ((Gl a0).bind λy7=>some (y7.1,8,())) (iteP (0<=y1.1.primary) ((a0.servers[y1.1.primary.toNat]?).bind λx8=>br (!x8.up) ((Gl a0).bind λy9=>some (y9.1,2,())) (iteP (0<=y1.1.primary) ((a0.sides[y1.1.primary.toNat]?).bind λx10=>br (!(x10==0)) ((Gl a0).bind λy11=>some (y11.1,10,())) ((HB a0.lease a0.now).bind λy12=>br (!y12.1) ((Gl a0).bind λy13=>some (y13.1,7,())) ((HC a0 y1.1.primary y1.1.epoch).bind λy14=>(II y14.1 y1.1.primary).bind λy15=>br (!y15.2.1) (some (y14.1,9,())) ((J3 y1.1).bind λy16=>(FG y16.1 y14.1).bind λy17=>br y17.1 (some (y14.1,10,())) ((Jc y15.1).bind λy18=>let j55:Option (qN×Int×Unit):=(Rc (((),(),(),(),(),(y16.1.length:Int),0,()),((0,(),(),(),0,0,0,0,0,(),()),(y1.1.epoch,y1.1.primary,(),(),()),(y14.1.now,(),(),(),y14.1.master.activated,y14.1.masterUp,y14.1.lease.epoch,y14.1.lease.holder,y14.1.lease.ends,(),()),()),y15.1,y16.1,y1.1.replicas,y1.1.witnesses,y14.1.servers,y14.1.sides,y14.1.master.configs,y14.1.places,())).bind λe53=>(I9 (⟨e53.2.2.2.2.2.2.1,e53.2.1.2.2.1.2.2.2.2.1⟩:kB) e53.2.1.2.1.1).bind λy54=>some ((⟨e53.2.1.2.2.1.1,e53.2.2.2.2.1,e53.2.2.2.2.2.1,y54.1,e53.2.1.2.2.1.2.2.2.2.2.1,(⟨0,0,0⟩:vz),e53.2.2.2.2.2.2.2.1⟩:qN),0,());br y18.1 ((FH y16.1 y14.1).bind λy19=>br y19.1 (some (y14.1,6,())) (j55)) (j55)))))) none)) none))))
def Yb[dL] :=FB 33 Tryz.f33 SN P8 (λx=>NM x.1) [Wu,KA,OH,Q9,Vt,Vv,S9,Ql,(El 1 110 LM LN rfl),Qm,Sx] [VT] (by kernel_rfl) λx=>by simp only[NM,tm];kernel_rfl
def HW(a0:qQ)(a1:qQ):Option (Bool×Unit):=
 br (a0.up==a1.up) (br (a0.intact==a1.intact) (br (a0.version==a1.version) (br (a0.epoch==a1.epoch) ((Gi a0.config a1.config).bind λy1=>br y1.1 (br (a0.first==a1.first) ((HG a0.log a1.log).bind λy2=>br y2.1 (br (a0.commit==a1.commit) ((HG a0.learned a1.learned).bind λy3=>some (y3.1,())) (some (false,()))) (some (false,()))) (some (false,()))) (some (false,()))) (some (false,()))) (some (false,()))) (some (false,()))) (some (false,()))
def Q4[dL] :=FB 62 Tryz.f62 [.ty (.st .server),.ty (.st .server)] [.b] (λx=>HW x.1 x.2.1) [Ji,Qs] [] (by kernel_rfl) λx=>by simp only[HW,tm];kernel_rfl
abbrev Ht:LX:=⟨⟨[(1,.cl (.ro (.st .server))),(2,.cl (.fc 62)),(15,.cl (.ro (.st .server))),(16,.cl (.int .i64)),(17,.cl (.int .i64))],[],[],0,32⟩,[(.ret,⟨[(6,.cl (.bl))],[],[],0,32⟩),(.ext 0,⟨[aaL],[],[],0,32⟩)],[],[1,2,15,16,17],[6]⟩
def FU(s: (List qQ×Unit×List qQ×Int×Int×Unit)×Unit×Unit):Ht.R:=
 br (decide (s.1.2.2.2.2.1<s.1.2.2.2.1)) (iteP (0<=s.1.2.2.2.2.1) ((s.1.2.2.1[s.1.2.2.2.2.1.toNat]?).bind λx5=>iteP (0<=s.1.2.2.2.2.1) ((s.1.1[s.1.2.2.2.2.1.toNat]?).bind λx6=>(HW x5 x6).bind λy7=>br (!y7.1) (some (.inr (.inl ((false,()),(()),(()))))) (some (.inl ((s.1.1,(),s.1.2.2.1,s.1.2.2.2.1,(IntKind.wrap .i64 (s.1.2.2.2.2.1+1)),()),(()),(()))))) none) none) (some (.inr (.inr (((),()),(()),(())))))
def JT:=md FU
def JU[dL] :=Ik Tryz.f61 [0] Ht FU [Q4] [] (by kernel_rfl) λs=>by simp only[FU,tm];kernel_rfl
def F5(a0:List qQ)(a1:List qQ):Option (Bool×Unit):=
 br (!((a0.length:Int)==(a1.length:Int))) (some (false,())) ((JT ((a1,(),a0,(a0.length:Int),0,()),(()),(()))).bind λe8=>Sum.elim (λe8_0=>some e8_0.1) (λ_=>some (true,())) e8)
def Kj[dL] :=FB 61 Tryz.f61 [.ty (.ls (.st .server)),.ty (.ls (.st .server)),.fc 62] [.b] (λx=>F5 x.1 x.2.1) [] [JU] (by kernel_rfl) λx=>by simp only[F5,tm];kernel_rfl
abbrev H5:LX:=⟨⟨[(1,.cl (.ro (.st .config))),(2,.cl (.fc 19)),(15,.cl (.ro (.st .config))),(16,.cl (.int .i64)),(17,.cl (.int .i64))],[],[],0,32⟩,[(.ret,⟨[(6,.cl (.bl))],[],[],0,32⟩),(.ext 0,⟨[aaL],[],[],0,32⟩)],[],[1,2,15,16,17],[6]⟩
def Gc(s: (List om×Unit×List om×Int×Int×Unit)×Unit×Unit):H5.R:=
 br (decide (s.1.2.2.2.2.1<s.1.2.2.2.1)) (iteP (0<=s.1.2.2.2.2.1) ((s.1.2.2.1[s.1.2.2.2.2.1.toNat]?).bind λx5=>iteP (0<=s.1.2.2.2.2.1) ((s.1.1[s.1.2.2.2.2.1.toNat]?).bind λx6=>(Gi x5 x6).bind λy7=>br (!y7.1) (some (.inr (.inl ((false,()),(()),(()))))) (some (.inl ((s.1.1,(),s.1.2.2.1,s.1.2.2.2.1,(IntKind.wrap .i64 (s.1.2.2.2.2.1+1)),()),(()),(()))))) none) none) (some (.inr (.inr (((),()),(()),(())))))
def KY:=md Gc
def KZ[dL] :=Ik Tryz.f177 [0] H5 Gc [Ji] [] (by kernel_rfl) λs=>by simp only[Gc,tm];kernel_rfl
def Gk(a0:List om)(a1:List om):Option (Bool×Unit):=
 br (!((a0.length:Int)==(a1.length:Int))) (some (false,())) ((KY ((a1,(),a0,(a0.length:Int),0,()),(()),(()))).bind λe8=>Sum.elim (λe8_0=>some e8_0.1) (λ_=>some (true,())) e8)
def Ln[dL] :=FB 177 Tryz.f177 [.ty (.ls (.st .config)),.ty (.ls (.st .config)),.fc 19] [.b] (λx=>Gk x.1 x.2.1) [] [KZ] (by kernel_rfl) λx=>by simp only[Gk,tm];kernel_rfl
def IG(a0:kB)(a1:kB):Option (Bool×Unit):=
 br (a0.activated==a1.activated) ((Gk a0.configs a1.configs).bind λy1=>some (y1.1,())) (some (false,()))
def RY[dL] :=FB 64 Tryz.f64 [.ty (.st .masterLog),.ty (.st .masterLog)] [.b] (λx=>IG x.1 x.2.1) [Ln] [] (by kernel_rfl) λx=>by simp only[IG,tm];kernel_rfl
abbrev Px:LX:=⟨⟨[Tl,(1,.cl (.ro (.st .place))),Qz,aaS],[],[],0,26⟩,[(.ret,⟨[US],[],[],0,26⟩),(.ext 0,⟨[Ph],[],[],0,26⟩)],[],[0,1,12,13],[4]⟩
def Ku(s: (List vB×List vB×Int×Int×Unit)×Unit×Unit):Px.R:=
 br (decide (s.1.2.2.2.1<s.1.2.2.1)) (iteP (0<=s.1.2.2.2.1) ((s.1.1[s.1.2.2.2.1.toNat]?).bind λx5=>iteP (0<=s.1.2.2.2.1) ((s.1.2.1[s.1.2.2.2.1.toNat]?).bind λx6=>br (!((x5.rack==x6.rack)&&((x5.capacity==x6.capacity)&&((x5.load==x6.load)&&true)))) (some (.inr (.inl ((false,()),(()),(()))))) (some (.inl ((s.1.1,s.1.2.1,s.1.2.2.1,(IntKind.wrap .i64 (s.1.2.2.2.1+1)),()),(()),(()))))) none) none) (some (.inr (.inr (((),()),(()),(())))))
def SM:=md Ku
def S6[dL] :=Ik Tryz.f65 [0] Px Ku [] [] (by kernel_rfl) λs=>by simp only[Ku,tm];kernel_rfl
def Ke(a0:List vB)(a1:List vB):Option (Bool×Unit):=
 br (!((a0.length:Int)==(a1.length:Int))) (some (false,())) ((SM ((a0,a1,(a0.length:Int),0,()),(()),(()))).bind λe7=>Sum.elim (λe7_0=>some e7_0.1) (λ_=>some (true,())) e7)
def UJ[dL] :=FB 65 Tryz.f65 [.ty (.ls (.st .place)),.ty (.ls (.st .place))] [.b] (λx=>Ke x.1 x.2.1) [] [S6] (by kernel_rfl) λx=>by simp only[Ke,tm];kernel_rfl
def Iu(a0:qN)(a1:qN):Option (Bool×Unit):=
 br (a0.now==a1.now) ((F5 a0.servers a1.servers).bind λy1=>br y1.1 ((Jz a0.sides a1.sides).bind λy2=>br y2.1 ((IG a0.master a1.master).bind λy3=>br y3.1 (br (a0.masterUp==a1.masterUp) (br ((a0.lease.epoch==a1.lease.epoch)&&((a0.lease.holder==a1.lease.holder)&&((a0.lease.ends==a1.lease.ends)&&true))) ((Ke a0.places a1.places).bind λy4=>some (y4.1,())) (some (false,()))) (some (false,()))) (some (false,()))) (some (false,()))) (some (false,()))) (some (false,()))
def TC[dL] :=FB 11 Tryz.f11 [.ty (.st .cluster),.ty (.st .cluster)] [.b] (λx=>Iu x.1 x.2.1) [Kj,R9,RY,UJ] [] (by kernel_rfl) λx=>by simp only[Iu,tm];kernel_rfl
def QX[dL](a0:Hd):Option (qN×om×Unit):=
 (Uc a0).bind λy1=>(OZ y1.1).bind λy2=>iteP (y2.1.length=y1.1.length) ((PG y2.1).bind λy3=>iteP (y3.1.length=y2.1.length) ((Gz y3.1 4).bind λy4=>iteP (y4.1.length=y3.1.length) (br (!y4.2.1) (some (y2.2.1,(⟨(IntKind.wrap .i64 ((y2.2.1.master.configs.length:Int)+1)),y3.2.1.primary,y3.2.1.replicas,y3.2.1.witnesses⟩:om),())) (some (y2.2.1,y3.2.1,()))) none) none) none
def ZJ[dL] :=FB 122 Tryz.f122 [.ty (.h)] Zd (λx=>QX x.1) [YZ,Xx,WO,Jj] [] (by kernel_rfl) λx=>by simp only[QX,tm,-eq_self];kernel_rfl
def IM[dL](a0:Hd):Option (qN×om×Unit):=
 (QX a0).bind λy1=>some (y1.1,y1.2.1,())
def R3[dL] :=FB 35 Tryz.f35 [.ty (.h)] Zd (λx=>IM x.1) [ZJ] [] (by kernel_rfl) λx=>by simp only[IM,tm];kernel_rfl
end
end Go.Proofs.YtkghndikalnipaaGreat.En
