/- Lemmas of this claim. -/
import Derived.Test.YtdiiopjaebnmfaaGreatZFnBaseA
set_option maxHeartbeats 16000000
set_option maxRecDepth 100000
set_option linter.unusedVariables false
set_option linter.unusedSimpArgs false
namespace Go.Proofs.YtdiiopjaebnmfaaGreat
open _root_.Go.Proofs.Tryz
open _root_.List renaming getD_eq_getElem?_getD->KZ,all_eq_true->K3,getElem?_cons_succ->K5,mem_of_getElem?->K6,getElem?_eq_some_iff->K7,getElem?_eq_getElem->K8,getElem?_cons_zero->K_,mem_cons->Lb,getElem?_append_left->Lc,any_eq_true->Lf,mem_append->Lh,getElem?_drop->Lj,getElem?_take_of_lt->Lk,length_append->Ll,nodup_cons->Lm,getElem?_eq_none->Lp,contains_iff_mem->Lr,cons_append->Ls,length_cons->Lt,getElem?_append_right->Lu,getD_cons_zero->Lv,getD_cons_succ->Lw,mem_range->Lz,nodup_append->LB,getElem?_set_ne->LF,length_eq_zero_iff->LI,nil_append->LJ,length_nil->LK,getElem?_set_self->LM,mem_of_mem_drop->LN,mem_of_mem_take->LO,mem_cons_of_mem->LP,replicate_succ->LQ,append_of_mem->LU,contains_cons->LW,getElem?_map->LZ,mem_flatMap->L3,nodup_nil->L4,set_comm->L5,mem_map->L6
open _root_.Bool renaming and_eq_true->K0,or_eq_true->La,not_eq_true'->Li,or_eq_true_iff->LR,true_or->LX
open _root_.Array renaming getD_eq_getD_getElem?->K1,getElem?_eq_getElem->K4,getElem?_eq_some_iff->K9,getElem?_replicate->Ly,all_eq_true_iff_forall_mem->LD,getElem?_append_left->LH
open _root_.Option renaming getD_some->K2,map_some->Lg,map_eq_some_iff->Lo
open _root_.Nat renaming lt_or_ge->Ld,add_mul->Ln,zero_add->Lq,le_refl->LG,eq_zero_or_pos->LY,lt_trans->L7
open _root_.Go.Sem renaming run_bind->Lx,run_pure->LS
open _root_.Go.Result renaming andThen_ok->LA
section
open Go.RowKit
inductive St where
 |go (k:List dP) (s:S) (c:Prop)
 |fin (s:S) (c:Prop)
 |call (f:Nat) (args:List AV) (d:Option Tmp) (k:List dP) (s:S) (c:Prop)
 |lp (b:Code) (k:List dP) (s:S) (c:Prop)
 |hk (N:S->Prop) (s:S) (c:Prop)
 |draw (id:Nat) (r:Array Oper) (k:List dP) (s:S) (c:Prop)
 |gl (r:Array Oper) (o:Oper) (l:List Oper) (k:List dP) (s:S) (c:Prop)
 |bad
def nT (id:Nat):List dP->Option (List dP)
 |[]=>none
 | .inB id'::k=>if id'=id then some k else nT id k
 | .code _::k=>nT id k
 | .ops _ _::k=>nT id k
 | .hook _::k=>nT id k
def uJ (P:Program) (r:Array Oper) (o:Oper) (l:List Oper) (k:List dP) (s:S) (c:Prop):St:=
 match o.op with
 | .call ⟨.value x,args,_⟩=>match s.ev x,s.evs args.toList with
  |some (.cl f caps),some avs=>.call f (avs++jq caps) o.dst (.ops r l::k) s c
  |_,_=>.bad
 |op=>match bc P s o.type op with
  |some ⟨v,h,d⟩=>.go (.ops r l::k) (s.put o.dst v h) (c/\d)
  |none=>.gl r o l k s c
def pH (P:Program):List dP->S->Prop->St
 |[],s,c=>.fin s c
 | .hook N::k,s,c=>.hk N s c
 | .inB _::k,s,c=>.go k s c
 | .ops r []::k,s,c=>.go k s c
 | .ops r (o::l)::k,s,c=>match dF r s o with
  |some b=>match b with
   |true=>uJ P r o l k s c
   |false=>.go (.ops r l::k) (s.put o.dst (some (.tu [])) s.hp) c
  |none=>.bad
 | .code .skip::k,s,c=>.go k s c
 | .code (.seq a b)::k,s,c=>.go (.code a::.code b::k) s c
 | .code (.cond t a b)::k,s,c=>match s.ev t with
  |some (.sc (.bo x))=>match x with
   |true=>.go (.code a::k) s c
   |false=>.go (.code b::k) s c
  |_=>.bad
 | .code (.block id a)::k,s,c=>.go (.code a::.inB id::k) s c
 | .code (.exit id)::k,s,c=>match nT id k with
  |some k'=>.go k' s c
  |none=>.bad
 | .code .ret::k,s,c=>.fin s c
 | .code (.region id r d)::k,s,c=>match d with
  |false=>.go (.ops r r.toList::k) s c
  |true=>.draw id r k s c
 | .code (.loop b)::k,s,c=>.lp b k s c
 |_,_,_=>.bad
def run (P:Program):Nat->St->St
 |0,x=>x
 |n+1,.go k s c=>run P n (pH P k s c)
 |_+1,.fin s c=>.fin s c
 |_+1,.call f a d k s c=>.call f a d k s c
 |_+1,.lp b k s c=>.lp b k s c
 |_+1,.hk N s c=>.hk N s c
 |_+1,.draw id r k s c=>.draw id r k s c
 |_+1,.gl r o l k s c=>.gl r o l k s c
 |_+1,.bad=>.bad
def BR (F:S->Prop):Exit->S->Prop
 | .normal,s| .ret,s=>F s
 |_,_=>False
def eD (P:Program) (E:Entry) (F:S->Prop):St->Prop
 | .go k s c=>c/\KK P E (BR F) k .normal s
 | .fin s c=>c/\F s
 | .call f args d k s c=>c/\tp P E f args s.hp fun res h'=>KK P E (BR F) k .normal (s.put d (some res) h')
 | .lp b k s c=>c/\mP P E (.loop b) s (KK P E (BR F) k)
 | .hk N s c=>c/\N s
 | .draw id r k s c=>c/\mP P E (.region id r true) s (KK P E (BR F) k)
 | .gl r o l k s c=>c/\KK P E (BR F) (.ops r (o::l)::k) .normal s
 | .bad=>False
theorem pI {P:Program} {E:Entry} {F:Exit->S->Prop}:∀ {k:List dP} {s:S},F .ret s->KK P E F k .ret s
 |[],_,h=>h
 | .code _::k,s,h=>pI (k:=k) h
 | .ops _ _::k,s,h=>pI (k:=k) h
 | .inB _::k,s,h=>pI (k:=k) h
 | .hook _::k,s,h=>pI (k:=k) h
theorem lI {P:Program} {E:Entry} {F:Exit->S->Prop} {id:Nat}:∀ {k k':List dP} {s:S},nT id k=some k'->KK P E F k' .normal s->KK P E F k (.exit id) s
 |[],k',s,h,_=>by cases h
 | .code _::k,k',s,h,hk=>lI (k:=k) h hk
 | .ops _ _::k,k',s,h,hk=>lI (k:=k) h hk
 | .hook _::k,k',s,h,hk=>lI (k:=k) h hk
 | .inB id'::k,k',s,h,hk=>by
  simp only [nT] at h
  simp only [KK]
  split at h
  ·rename_i he
   subst he
   simp only [Option.some.injEq] at h
   subst h
   rw [if_pos rfl]
   exact hk
  rename_i he
  rw [if_neg (Ne.symm he)]
  exact lI (k:=k) h hk
theorem yS {P:Program} {E:Entry} {F:S->Prop} {r:Array Oper} {o:Oper} {l:List Oper} {k:List dP} {s:S} {c:Prop} (hg:dF r s o=some true) (h:eD P E F (uJ P r o l k s c)):c/\KK P E (BR F) (.ops r (o::l)::k) .normal s:=by
 unfold uJ at h
 split at h
 ·rename_i x args at_ ho
  split at h
  ·rename_i f caps avs hx ha
   obtain⟨hc,hcall⟩:=h
   exact⟨hc,BP hg ho hx ha hcall⟩
  exact h.elim
 split at h
 ·rename_i v hp d hx
  obtain⟨⟨hc,hd⟩,hk⟩:=h
  exact⟨hc,FT hg hx hd hk⟩
 exact h
theorem DH {P:Program} {E:Entry} {F:S->Prop}:∀ {k:List dP} {s:S} {c:Prop},eD P E F (pH P k s c)->eD P E F (.go k s c):=by
 intro k s c h
 cases k with
 |nil=>exact h
 |cons i k=>
  cases i with
  |hook N=>exact h
  |inB id=>exact h
  |ops r l=>
   cases l with
   |nil=>exact⟨h.1,DE h.2⟩
   |cons o l=>
    simp only [pH] at h
    split at h
    ·rename_i b hg
     cases b with
     |true=>exact yS hg h
     |false=>exact⟨h.1,BO hg h.2⟩
    exact h.elim
  |code C=>
   cases C with
   |skip=>exact⟨h.1,DF h.2⟩
   |region id r d=>
    cases d with
    |false=>exact⟨h.1,yR h.2⟩
    |true=>exact h
   |seq a b=>
    refine⟨h.1,FV (d9 h.2 fun e s' hk=>?_)⟩
    cases e<;>exact hk
   |cond t a b=>
    simp only [pH] at h
    split at h
    ·rename_i x ht
     cases x with
     |true=>exact⟨h.1,wu ht h.2⟩
     |false=>exact⟨h.1,wu ht h.2⟩
    exact h.elim
   |block id a=>
    refine⟨h.1,BQ (d9 h.2 fun e s' hk=>?_)⟩
    cases e<;>exact hk
   |loop b=>exact h
   |exit id=>
    simp only [pH] at h
    split at h
    ·rename_i k' hk'
     exact⟨h.1,DG (lI hk' h.2)⟩
    exact h.elim
   |ret=>exact⟨h.1,FU (pI h.2)⟩
   |rangeFunc=>exact h.elim
   |scope=>exact h.elim
   |label=>exact h.elim
   |goto=>exact h.elim
   |refuse=>exact h.elim
theorem af {P:Program} {E:Entry} {F:S->Prop}:∀ (n:Nat) {x:St},eD P E F (run P n x)->eD P E F x
 |0,_,h=>h
 |n+1,.go k s c,h=>DH (af n h)
 |_+1,.fin ..,h=>h
 |_+1,.call ..,h=>h
 |_+1,.lp ..,h=>h
 |_+1,.hk ..,h=>h
 |_+1,.draw ..,h=>h
 |_+1,.gl ..,h=>h
 |_+1,.bad,h=>h
abbrev bu:=List (Option (Nat×Option Nat))
def bu.at (ρ:bu) (o:Nat):Option (Nat×Option Nat):=ρ.getD o none
def G5 (ρ:bu):Sc->Sc->Prop
 | .int k n,.int k' n'=>k'=k/\n'=n
 | .bo b,.bo b'=>b'=b
 | .st l,.st l'=>l'=l
 | .nil,.nil=>True
 | .un,.un=>True
 | .un,.pt .. =>True
 | .sl o off len,.sl o' off' len'=>match ρ.at o with
  |some (n,none)=>o'=n/\off'=off/\len'=len
  |some (n,some d)=>o'=n/\off'=off+d/\len'=len
  |none=>False
 | .sl o off len,.nil=>len=0
 | .pt o k j,.pt o' k' j'=>match ρ.at o with
  |some (n,none)=>o'=n/\k'=k/\j'=j
  |some (n,some d)=>o'=n/\k'=k+d/\j'=j
  |none=>False
 |_,_=>False
def cM (ρ:bu):List Sc->List Sc->Prop
 |[],[]=>True
 |a::l,b::m=>G5 ρ a b/\cM ρ l m
 |_,_=>False
def Kf (ρ:bu):Co->Co->Prop
 | .sc a,.sc b=>G5 ρ a b
 | .ag a,.ag b=>cM ρ a b
 |_,_=>False
def J9 (ρ:bu):List Co->List Co->Prop
 |[],[]=>True
 |a::l,b::m=>Kf ρ a b/\J9 ρ l m
 |_,_=>False
def yA (ρ:bu):AV->AV->Prop
 | .sc a,.sc b=>G5 ρ a b
 | .ag a,.ag b=>cM ρ a b
 | .tu a,.tu b=>J9 ρ a b
 | .cl f a,.cl g b=>g=f/\cM ρ a b
 |_,_=>False
def kT (ρ:bu):List AV->List AV->Prop
 |[],[]=>True
 |a::l,b::m=>yA ρ a b/\kT ρ l m
 |_,_=>False
def J_ (ρ:bu):List (List Sc)->List (List Sc)->Prop
 |[],[]=>True
 |a::l,b::m=>cM ρ a b/\J_ ρ l m
 |_,_=>False
def Iv (ρ:bu) (d:Option Nat) (t s:AObj):Prop:=
 s.esz=t.esz/\match d with
 |none=>s.ty=t.ty/\(t.own=true->s.own=true)/\(match t.fl with
  |true=>s.fl=true/\s.cs=t.cs
  |false=>J_ ρ t.cs s.cs)
 |some d=>t.own=false/\t.fl=true/\s.fl=true/\(s.cs.drop d).take t.cs.length=t.cs
def ii (ρ:bu) (s:Hp):bu->Hp->Prop
 |[],[]=>True
 |none::ρ',some t::h=>t.cs=[]/\ii ρ s ρ' h
 |some (n,d)::ρ',some t::h=>(match s.getD n none with
  |some ob=>Iv ρ d t ob
  |none=>False)/\ii ρ s ρ' h
 |_::ρ',none::h=>ii ρ s ρ' h
 |_,_=>False
def dt (β:Be):bu->Be
 |[]=>[]
 |none::ρ=>none::dt β ρ
 |some (n,none)::ρ=>β.getD n none::dt β ρ
 |some (n,some d)::ρ=>(β.getD n none).map (fun p=>{ p with base:=p.base+d*p.esz,avail:=p.avail - d*p.esz })::dt β ρ
theorem fO (β:Be):∀ ρ:bu,(dt β ρ).length=ρ.length
 |[]=>rfl
 |none::ρ=>by simp [dt,fO β ρ]
 |some (n,none)::ρ=>by simp [dt,fO β ρ]
 |some (n,some d)::ρ=>by simp [dt,fO β ρ]
theorem aG (β:Be):∀ {ρ:bu} {o:Nat} {x:Option (Nat×Option Nat)},ρ[o]? =some x->(dt β ρ)[o]? =some (match x with
  |none=>none
  |some (n,none)=>β.getD n none
  |some (n,some d)=>(β.getD n none).map (fun p=>{ p with base:=p.base+d*p.esz,avail:=p.avail - d*p.esz }))
 |[],o,x,h=>by simp at h
 |y::ρ,0,x,h=>by
  simp only [K_,Option.some.injEq] at h
  subst h
  cases y with
  |none=>rfl
  |some y=>obtain⟨n,d⟩:=y;cases d<;>rfl
 |y::ρ,o+1,x,h=>by
  simp only [K5] at h
  have:=aG β h
  cases y with
  |none=>simpa [dt] using this
  |some y=>obtain⟨n,d⟩:=y;cases d<;>simpa [dt] using this
theorem uK {ρ:bu} {o:Nat} {x:Nat×Option Nat} (h:ρ.at o=some x):ρ[o]? =some (some x):=by
 unfold bu.at at h
 rw [KZ] at h
 cases hx:ρ[o]? with
 |none=>rw [hx] at h;cases h
 |some y=>rw [hx] at h;simp only [K2] at h;rw [h]
theorem oV {β:Be} {n:Nat} {p:Pl} (h:β[n]? =some (some p)):β.getD n none=some p:=by rw [KZ,h];rfl
theorem ww {β:Be} {ρ:bu}:∀ {t s:Sc} {v:Value},G5 ρ t s->ScR β s v->ScR (dt β ρ) t v
 | .int k n,.int k' n',v,h,hv=>by obtain⟨rfl,rfl⟩:=h;exact hv
 | .bo b,.bo b',v,h,hv=>by have h':b'=b:=h;subst h';exact hv
 | .st b,.st b',v,h,hv=>by have h':b'=b:=h;subst h';exact hv
 | .nil,.nil,v,h,hv=>hv
 | .un,.un,v,h,hv=>hv
 | .un,.pt ..,v,h,hv=>let⟨_,_,e⟩:=hv;⟨_,e⟩
 | .un,.int ..,_,h,_=>h.elim
 | .un,.bo _,_,h,_=>h.elim
 | .un,.st _,_,h,_=>h.elim
 | .un,.nil,_,h,_=>h.elim
 | .un,.sl ..,_,h,_=>h.elim
 | .sl o off len,.nil,v,h,hv=>by
  have h':len=0:=h
  subst h'
  obtain⟨a,rfl⟩:=hv
  exact⟨a,0,rfl,LG _,Nat.zero_le _,.inl rfl⟩
 | .sl o off len,.sl o' off' len',v,h,hv=>by
  obtain⟨a,cap,rfl,h1,h2,h3⟩:=hv
  simp only [G5] at h
  split at h
  ·rename_i n hn
   obtain⟨rfl,rfl,rfl⟩:=h
   refine⟨a,cap,rfl,h1,h2,h3.imp id fun⟨p,hp,r⟩=>⟨p,?_,r⟩⟩
   rw [aG β (uK hn)]
   dsimp only
   rw [oV hp]
  ·rename_i n d hn
   obtain⟨rfl,rfl,rfl⟩:=h
   refine⟨a,cap,rfl,h1,h2,h3.imp id fun⟨p,hp,ha,hav⟩=>⟨{ p with base:=p.base+d*p.esz,avail:=p.avail - d*p.esz },?_,?_,?_⟩⟩
   ·rw [aG β (uK hn)]
    dsimp only
    rw [oV hp]
    rfl
   ·rw [ha]
    simp only [Option.some.injEq,Addr.mk.injEq,and_true,true_and]
    rw [Ln]
    omega
   dsimp only
   rw [show off+d+cap=(off+cap)+d from by omega,Ln] at hav
   omega
  exact h.elim
 | .pt o k j,.pt o' k' j',v,h,hv=>by
  obtain⟨p,hp,rfl⟩:=hv
  simp only [G5] at h
  split at h
  ·rename_i n hn
   obtain⟨rfl,rfl,rfl⟩:=h
   refine⟨p,?_,rfl⟩
   rw [aG β (uK hn)]
   dsimp only
   rw [oV hp]
  ·rename_i n d hn
   obtain⟨rfl,rfl,rfl⟩:=h
   refine⟨{ p with base:=p.base+d*p.esz,avail:=p.avail - d*p.esz },?_,?_⟩
   ·rw [aG β (uK hn)]
    dsimp only
    rw [oV hp]
    rfl
   simp only [Value.pointer.injEq,Option.some.injEq,Addr.mk.injEq,and_true,true_and]
   rw [Ln]
   omega
  exact h.elim
 | .int ..,.un,_,h,_=>h.elim
 | .bo ..,.un,_,h,_=>h.elim
 | .st ..,.un,_,h,_=>h.elim
 | .nil,.un,_,h,_=>h.elim
 | .sl ..,.un,_,h,_=>h.elim
 | .pt ..,.un,_,h,_=>h.elim
 | .int ..,.bo _,_,h,_=>h.elim
 | .int ..,.st _,_,h,_=>h.elim
 | .int ..,.nil,_,h,_=>h.elim
 | .int ..,.sl ..,_,h,_=>h.elim
 | .int ..,.pt ..,_,h,_=>h.elim
 | .bo _,.int ..,_,h,_=>h.elim
 | .bo _,.st _,_,h,_=>h.elim
 | .bo _,.nil,_,h,_=>h.elim
 | .bo _,.sl ..,_,h,_=>h.elim
 | .bo _,.pt ..,_,h,_=>h.elim
 | .st _,.int ..,_,h,_=>h.elim
 | .st _,.bo _,_,h,_=>h.elim
 | .st _,.nil,_,h,_=>h.elim
 | .st _,.sl ..,_,h,_=>h.elim
 | .st _,.pt ..,_,h,_=>h.elim
 | .nil,.int ..,_,h,_=>h.elim
 | .nil,.bo _,_,h,_=>h.elim
 | .nil,.st _,_,h,_=>h.elim
 | .nil,.sl ..,_,h,_=>h.elim
 | .nil,.pt ..,_,h,_=>h.elim
 | .sl ..,.int ..,_,h,_=>h.elim
 | .sl ..,.bo _,_,h,_=>h.elim
 | .sl ..,.st _,_,h,_=>h.elim
 | .sl ..,.pt ..,_,h,_=>h.elim
 | .pt ..,.int ..,_,h,_=>h.elim
 | .pt ..,.bo _,_,h,_=>h.elim
 | .pt ..,.st _,_,h,_=>h.elim
 | .pt ..,.nil,_,h,_=>h.elim
 | .pt ..,.sl ..,_,h,_=>h.elim
theorem FW {β:Be} {ρ:bu}:∀ {t s:List Sc} {vs:List Value},cM ρ t s->L2 (ScR β) s vs->L2 (ScR (dt β ρ)) t vs
 |[],[],[],_,_=>trivial
 |a::l,b::m,v::vs,h,hv=>⟨ww h.1 hv.1,FW h.2 hv.2⟩
 |[],_::_,_,h,_=>h.elim
 |_::_,[],_,h,_=>h.elim
 |[],[],_::_,_,h=>h.elim
 |_::_,_::_,[],_,h=>h.elim
theorem IF {β:Be} {ρ:bu} {t s:Co} {v:Value} (h:Kf ρ t s) (hv:yE β s v):yE (dt β ρ) t v:=by
 cases t<;>cases s
 ·exact ww h hv
 ·exact h.elim
 ·exact h.elim
 obtain⟨vs,rfl,hl⟩:=hv
 exact⟨vs,rfl,FW h hl⟩
theorem G6 {β:Be} {ρ:bu}:∀ {t s:List Co} {vs:List Value},J9 ρ t s->L2 (yE β) s vs->L2 (yE (dt β ρ)) t vs
 |[],[],[],_,_=>trivial
 |a::l,b::m,v::vs,h,hv=>⟨IF h.1 hv.1,G6 h.2 hv.2⟩
 |[],_::_,_,h,_=>h.elim
 |_::_,[],_,h,_=>h.elim
 |[],[],_::_,_,h=>h.elim
 |_::_,_::_,[],_,h=>h.elim
theorem tq {β:Be} {ρ:bu} {t s:AV} {v:Value} (h:yA ρ t s) (hv:dZ β s v):dZ (dt β ρ) t v:=by
 cases t<;>cases s<;>try exact h.elim
 ·exact ww h hv
 ·obtain⟨vs,rfl,hl⟩:=hv
  exact⟨vs,rfl,FW h hl⟩
 ·obtain⟨vs,rfl,hl⟩:=hv
  exact⟨vs,rfl,G6 h hl⟩
 obtain⟨rfl,h⟩:=h
 obtain⟨vs,rfl,hl⟩:=hv
 exact⟨vs,rfl,FW h hl⟩
theorem yT {β:Be} {ρ:bu}:∀ {t s:List AV} {vs:List Value},kT ρ t s->L2 (dZ β) s vs->L2 (dZ (dt β ρ)) t vs
 |[],[],[],_,_=>trivial
 |a::l,b::m,v::vs,h,hv=>⟨tq h.1 hv.1,yT h.2 hv.2⟩
 |[],_::_,_,h,_=>h.elim
 |_::_,[],_,h,_=>h.elim
 |[],[],_::_,_,h=>h.elim
 |_::_,_::_,[],_,h=>h.elim
theorem mQ {ρ:bu}:∀ {t s:List Sc},cM ρ t s->t.length=s.length
 |[],[],_=>rfl
 |_::_,_::_,h=>by simp [mQ h.2]
 |[],_::_,h=>h.elim
 |_::_,[],h=>h.elim
theorem yU {ρ:bu}:∀ {t s:List Sc} {i:Nat} {x:Sc},cM ρ t s->t[i]? =some x->∃ y,s[i]? =some y/\G5 ρ x y
 |[],[],i,x,_,h=>by simp at h
 |a::l,b::m,0,x,hm,h=>by simp at h;subst h;exact⟨b,zP,hm.1⟩
 |a::l,b::m,i+1,x,hm,h=>by simp at h;obtain⟨y,hy,hr⟩:=yU hm.2 h;exact⟨y,by simpa using hy,hr⟩
 |[],_::_,_,_,hm,_=>hm.elim
 |_::_,[],_,_,hm,_=>hm.elim
theorem uL {ρ:bu}:∀ {t s:List (List Sc)} {i:Nat} {x:List Sc},J_ ρ t s->t[i]? =some x->∃ y,s[i]? =some y/\cM ρ x y
 |[],[],i,x,_,h=>by simp at h
 |a::l,b::m,0,x,hm,h=>by simp at h;subst h;exact⟨b,zP,hm.1⟩
 |a::l,b::m,i+1,x,hm,h=>by simp at h;obtain⟨y,hy,hr⟩:=uL hm.2 h;exact⟨y,by simpa using hy,hr⟩
 |[],_::_,_,_,hm,_=>hm.elim
 |_::_,[],_,_,hm,_=>hm.elim
theorem mR {β β':Be} {s:Sc} {v:Value} (hf:s.isFlat=true) (h:ScR β s v):ScR β' s v:=by
 cases s<;>first|exact h|cases hf
def wx (n:Nat) (own:Bool):bu->Hp->Bool
 |some (m,_)::ρ,some u::h=>(!(own || u.own) || n != m) && wx n own ρ h
 |_::ρ,_::h=>wx n own ρ h
 |_,_=>true
def cG:bu->Hp->Bool
 |some (n,_)::ρ,some t::h=>wx n t.own ρ h && cG ρ h
 |_::ρ,_::h=>cG ρ h
 |_,_=>true
theorem wy {n:Nat} {own:Bool}:∀ {ρ:bu} {h:Hp},wx n own ρ h=true->∀ {j m:Nat} {d:Option Nat} {u:AObj},ρ[j]? =some (some (m,d))->h[j]? =some (some u)->(own=true\/u.own=true)->n≠m
 |[],_,_,j,m,d,u,hr,_,_=>by simp at hr
 |_::_,[],_,j,m,d,u,_,hh,_=>by simp at hh
 |x::ρ,y::h,hs,0,m,d,u,hr,hh,ho=>by
  simp only [K_,Option.some.injEq] at hr hh
  subst hr;subst hh
  simp only [wx,K0,La,bne_iff_ne,Li] at hs
  rcases hs.1 with h1|h1
  ·rcases ho with ho|ho<;>simp [ho] at h1
  exact h1
 |x::ρ,y::h,hs,j+1,m,d,u,hr,hh,ho=>by
  simp only [K5] at hr hh
  refine wy (ρ:=ρ) (h:=h) ?_ hr hh ho
  cases x with
  |none=>simpa [wx] using hs
  |some x=>cases y with
   |none=>simpa [wx] using hs
   |some y=>
    obtain⟨a,b⟩:=x
    simp only [wx,K0] at hs
    exact hs.2
theorem ij {x:Option (Nat×Option Nat)} {y:Option AObj} {ρ:bu} {h:Hp} (hs:cG (x::ρ) (y::h)=true):cG ρ h=true:=by
 cases x with
 |none=>simpa [cG] using hs
 |some x=>cases y with
  |none=>simpa [cG] using hs
  |some y=>
   obtain⟨a,b⟩:=x
   simp only [cG,K0] at hs
   exact hs.2
theorem lJ:∀ {ρ:bu} {h:Hp},cG ρ h=true->∀ {i j n m:Nat} {d e:Option Nat} {t u:AObj},i < j->ρ[i]? =some (some (n,d))->h[i]? =some (some t)->ρ[j]? =some (some (m,e))->h[j]? =some (some u)->(t.own=true\/u.own=true)->n≠m
 |[],_,_,i,j,n,m,d,e,t,u,_,hr,_,_,_,_=>by simp at hr
 |_::_,[],_,i,j,n,m,d,e,t,u,_,_,hh,_,_,_=>by simp at hh
 |x::ρ,y::h,hs,0,j+1,n,m,d,e,t,u,_,hr,hh,hr',hh',ho=>by
  simp only [K_,K5,Option.some.injEq] at hr hh hr' hh'
  subst hr;subst hh
  simp only [cG,K0] at hs
  exact wy hs.1 hr' hh' ho
 |x::ρ,y::h,hs,i+1,j+1,n,m,d,e,t,u,hlt,hr,hh,hr',hh',ho=>by
  simp only [K5] at hr hh hr' hh'
  exact lJ (ρ:=ρ) (h:=h) (ij hs) zO hr hh hr' hh' ho
theorem uM {ρ:bu} {h:Hp} (hs:cG ρ h=true) {i j n m:Nat} {d e:Option Nat} {t u:AObj} (hij:i≠j) (hr:ρ[i]? =some (some (n,d))) (hh:h[i]? =some (some t)) (hr':ρ[j]? =some (some (m,e))) (hh':h[j]? =some (some u)) (ho:t.own=true\/u.own=true):n≠m:=by
 rcases Nat.lt_or_gt_of_ne hij with h1|h1
 ·exact lJ hs h1 hr hh hr' hh' ho
 exact (lJ hs h1 hr' hh' hr hh ho.symm).symm
theorem getD_some {h:Hp} {n:Nat} {ob:AObj} (e:h.getD n none=some ob):h[n]? =some (some ob):=by
 rw [KZ] at e
 cases hx:h[n]? with
 |none=>rw [hx] at e;cases e
 |some y=>rw [hx] at e;simp only [K2] at e;rw [e]
theorem eN {ρ:bu} {s:Hp}:∀ {ρ':bu} {t:Hp},ii ρ s ρ' t->∀ {o:Nat} {ob:AObj},t[o]? =some (some ob)->
  (ρ'[o]? =some none/\ob.cs=[])\/∃ n d ob',ρ'[o]? =some (some (n,d))/\s[n]? =some (some ob')/\Iv ρ d ob ob'
 |[],[],_,o,ob,h=>by simp at h
 |x::ρ',y::t,hm,0,ob,h=>by
  simp only [K_,Option.some.injEq] at h
  subst h
  cases x with
  |none=>exact .inl ⟨rfl,hm.1⟩
  |some x=>
   obtain⟨n,d⟩:=x
   have h1:=hm.1
   split at h1
   ·rename_i ob' hob
    exact .inr ⟨n,d,ob',rfl,getD_some hob,h1⟩
   exact h1.elim
 |x::ρ',y::t,hm,o+1,ob,h=>by
  simp only [K5] at h⊢
  refine eN (ρ':=ρ') (t:=t) ?_ h
  cases x with
  |none=>cases y with
   |none=>exact hm
   |some y=>exact hm.2
  |some x=>cases y with
   |none=>exact hm
   |some y=>obtain⟨a,b⟩:=x;exact hm.2
 |[],_::_,hm,_,_,_=>by cases hm
 |x::_,[],hm,_,_,_=>by cases x with
  |none=>cases hm
  |some x=>obtain⟨a,b⟩:=x;cases hm
theorem gA {ρ:bu} {s:Hp}:∀ {ρ':bu} {t:Hp},ii ρ s ρ' t->ρ'.length=t.length
 |[],[],_=>rfl
 |x::ρ',y::t,hm=>by
  have:ii ρ s ρ' t:=by
   cases x with
   |none=>cases y with
    |none=>exact hm
    |some y=>exact hm.2
   |some x=>cases y with
    |none=>exact hm
    |some y=>obtain⟨a,b⟩:=x;exact hm.2
  simp [gA this]
 |[],_::_,hm=>by cases hm
 |x::_,[],hm=>by cases x with
  |none=>cases hm
  |some x=>obtain⟨a,b⟩:=x;cases hm
theorem iJ {ρ:bu} {d:Option Nat} {t s:AObj} (h:Iv ρ d t s) (ho:t.own=true):d=none/\s.own=true:=by
 cases d with
 |none=>exact⟨rfl,h.2.2.1 ho⟩
 |some d=>
  have:t.own=false:=h.2.1
  rw [ho] at this;cases this
theorem uN {β:Be} {ρ:bu} {s t:Hp} {w:World} (hs:HSim β s w) (hm:ii ρ s ρ t) (hsep:cG ρ t=true):HSim (dt β ρ) t w:=by
 refine⟨by rw [fO,gA hm],fun o ob ho=>?_,fun o ob ho hf=>?_,fun o o' ob ob' p p' ho ho' hown hp hp' hne=>?_⟩
 ·rcases eN hm ho with⟨hr,hcs⟩|⟨n,d,ob',hr,hn,hob⟩
  ·exact⟨none,aG β hr,hcs⟩
  obtain⟨q,hq,hR⟩:=hs.ob n ob' hn
  cases d with
  |none=>
   obtain⟨hesz,hty,hown,hcs⟩:=hob
   refine⟨q,by rw [aG β hr];dsimp only;rw [KZ,hq];rfl,?_⟩
   cases q with
   |none=>
    have h0:ob'.cs=[]:=hR
    split at hcs
    ·show ob.cs=[]
     rw [<-hcs.2,h0]
    show ob.cs=[]
    rw [h0] at hcs
    cases hc:ob.cs with
    |nil=>rfl
    |cons=>rw [hc] at hcs;exact hcs.elim
   |some p=>
    obtain⟨he,arr,T,fz,hh,hc,ho2⟩:=hR
    refine⟨he.trans hesz,arr,T,fz,hh,?_,fun h=>?_⟩
    ·split at hcs
     ·rename_i hfl
      intro k c hk
      rw [<-hcs.2] at hk
      obtain⟨h1,h2⟩:=hc k c hk
      rw [hesz] at h1
      refine⟨h1,fun j x hj=>?_⟩
      obtain⟨v,hv,hr'⟩:=h2 j x hj
      rw [hesz] at hv
      exact⟨v,hv,mR (dD.1 (hs.flat n ob' hn hcs.1 c (K6 hk)) x (K6 hj)) hr'⟩
     intro k c hk
     obtain⟨c',hk',hcm⟩:=uL hcs hk
     obtain⟨h1,h2⟩:=hc k c' hk'
     rw [hesz] at h1
     refine⟨(mQ hcm).trans h1,fun j x hj=>?_⟩
     obtain⟨x',hj',hxm⟩:=yU hcm hj
     obtain⟨v,hv,hr'⟩:=h2 j x' hj'
     rw [hesz] at hv
     exact⟨v,hv,ww hxm hr'⟩
    obtain⟨hT,hf,ha⟩:=ho2 (hown h)
    exact⟨hT.trans hty,hf,ha⟩
  |some d=>
   obtain⟨hesz,hno,hfl,hfl',hcs⟩:=hob
   refine⟨q.map (fun p=>{ p with base:=p.base+d*p.esz,avail:=p.avail - d*p.esz }),by rw [aG β hr];dsimp only;rw [KZ,hq];rfl,?_⟩
   cases q with
   |none=>
    have h0:ob'.cs=[]:=hR
    show ob.cs=[]
    rw [h0] at hcs
    simpa using hcs.symm
   |some p=>
    obtain⟨he,arr,T,fz,hh,hc,ho2⟩:=hR
    refine⟨he.trans hesz,arr,T,fz,hh,?_,fun h=>by rw [hno] at h;cases h⟩
    intro k c hk
    have hkl:k < ob.cs.length:=(K7.1 hk).1
    rw [<-hcs,Lk hkl,Lj] at hk
    obtain⟨h1,h2⟩:=hc _ c hk
    rw [hesz] at h1
    refine⟨h1,fun j x hj=>?_⟩
    obtain⟨v,hv,hr'⟩:=h2 j x hj
    rw [hesz] at hv
    refine⟨v,?_,mR (dD.1 (hs.flat n ob' hn hfl' c (K6 hk)) x (K6 hj)) hr'⟩
    dsimp only
    rw [show p.base+d*p.esz+k*ob.esz+j=p.base+(d+k)*ob.esz+j from by rw [he,hesz,Ln];omega]
    exact hv
 ·rcases eN hm ho with⟨hr,hcs⟩|⟨n,d,ob',hr,hn,hob⟩
  ·rw [hcs];intro c hc;cases hc
  cases d with
  |none=>
   obtain⟨_,_,_,hcs⟩:=hob
   rw [hf] at hcs
   rw [<-hcs.2]
   exact hs.flat n ob' hn hcs.1
  |some d=>
   obtain⟨_,_,hfl,hfl',hcs⟩:=hob
   rw [<-hcs]
   exact fun c hc=>hs.flat n ob' hn hfl' c (LN (LO hc))
 rcases eN hm ho with⟨hr,_⟩|⟨n,d,x,hr,hn,hx⟩
 ·rw [aG β hr] at hp;cases hp
 rcases eN hm ho' with⟨hr',_⟩|⟨m,e,y,hr',hm',hy⟩
 ·rw [aG β hr'] at hp';cases hp'
 obtain⟨rfl,hxo⟩:=iJ hx hown
 have hnm:=uM hsep hne hr ho hr' ho' (.inl hown)
 rw [aG β hr] at hp
 simp only [Option.some.injEq] at hp
 have hbn:β[n]? =some (some p):=by
  rw [KZ] at hp
  cases h:β[n]? with
  |none=>rw [h] at hp;cases hp
  |some z=>rw [h] at hp;simp only [K2] at hp;rw [hp]
 have hbm:∃ q,β[m]? =some (some q)/\q.blk=p'.blk:=by
  rw [aG β hr'] at hp'
  simp only [Option.some.injEq] at hp'
  cases e with
  |none=>
   dsimp only at hp'
   rw [KZ] at hp'
   cases h:β[m]? with
   |none=>rw [h] at hp';cases hp'
   |some z=>rw [h] at hp';simp only [K2] at hp';exact⟨p',by rw [hp'],rfl⟩
  |some e=>
   dsimp only at hp'
   rw [KZ] at hp'
   cases h:β[m]? with
   |none=>rw [h] at hp';cases hp'
   |some z=>
    rw [h] at hp'
    cases z with
    |none=>cases hp'
    |some z=>simp only [K2,Lg,Option.some.injEq] at hp';exact⟨z,rfl,by rw [<-hp']⟩
 obtain⟨q,hq,hqb⟩:=hbm
 rw [<-hqb]
 exact hs.apart n m x y p q hn hm' hxo hbn hq hnm
def yV (ρ:bu):List (Option AV)->List (Option AV)->Prop
 |[],[]=>True
 |none::l,_::m=>yV ρ l m
 |some a::l,some b::m=>yA ρ a b/\yV ρ l m
 |_,_=>False
def yB (ρ:bu):Slots->Slots->Prop
 |[],[]=>True
 |a::l,b::m=>yV ρ a b/\yB ρ l m
 |_,_=>False
theorem jt {ρ:bu}:∀ {t s:List (Option AV)},yV ρ t s->t.length=s.length
 |[],[],_=>rfl
 |none::l,_::m,h=>by simp [jt (t:=l) (s:=m) h]
 |some a::l,some b::m,h=>by simp [jt h.2]
 |some a::l,none::m,h=>h.elim
 |[],_::_,h=>h.elim
 |none::_,[],h=>h.elim
 |some _::_,[],h=>h.elim
theorem pJ {ρ:bu}:∀ {t s:List (Option AV)} {i:Nat} {v:AV},yV ρ t s->t[i]? =some (some v)->∃ u,s[i]? =some (some u)/\yA ρ v u
 |[],[],i,v,_,h=>by simp at h
 |none::l,_::m,0,v,_,h=>by simp at h
 |none::l,_::m,i+1,v,hm,h=>by simp at h;obtain⟨u,hu,hr⟩:=pJ (t:=l) (s:=m) hm h;exact⟨u,by simpa using hu,hr⟩
 |some a::l,some b::m,0,v,hm,h=>by simp at h;subst h;exact⟨b,zP,hm.1⟩
 |some a::l,some b::m,i+1,v,hm,h=>by simp at h;obtain⟨u,hu,hr⟩:=pJ hm.2 h;exact⟨u,by simpa using hu,hr⟩
 |some a::l,none::m,_,_,h,_=>h.elim
 |[],_::_,_,_,h,_=>h.elim
 |none::_,[],_,_,h,_=>h.elim
 |some _::_,[],_,_,h,_=>h.elim
theorem mS {ρ:bu}:∀ {t s:Slots} (i:Nat),yB ρ t s->(t[i]? =none/\s[i]? =none)\/∃ a b,t[i]? =some a/\s[i]? =some b/\yV ρ a b
 |[],[],i,_=>.inl ⟨zP,zP⟩
 |a::l,b::m,0,h=>.inr ⟨a,b,zP,zP,h.1⟩
 |a::l,b::m,i+1,h=>by simpa using mS i h.2
 |[],_::_,_,h=>h.elim
 |_::_,[],_,h=>h.elim
theorem uO {β:Be} {ρ:bu} {t s:Slots} {tm:Array Value} (h:yB ρ t s) (hs:SlotsR β s tm):SlotsR (dt β ρ) t tm:=by
 have hhas:∀ i,t.has i->s.has i:=by
  intro i hi
  unfold Slots.has at hi⊢
  rw [KZ] at hi⊢
  rcases mS (i / 16) h with⟨h1,h2⟩|⟨a,b,h1,h2,h3⟩
  ·rw [h1] at hi;simp at hi
  rw [h1] at hi
  rw [h2]
  simp only [K2] at hi⊢
  rw [<-jt h3]
  exact hi
 refine⟨fun i hi=>hs.1 i (hhas i hi),fun i v hv=>?_⟩
 unfold Slots.get at hv
 rw [KZ (l:=t)] at hv
 rcases mS (i / 16) h with⟨h1,h2⟩|⟨a,b,h1,h2,h3⟩
 ·rw [h1] at hv;simp at hv
 rw [h1,K2,KZ] at hv
 have hv':a[i % 16]? =some (some v):=by
  cases hx:a[i % 16]? with
  |none=>rw [hx] at hv;cases hv
  |some y=>rw [hx] at hv;simp only [K2] at hv;rw [hv]
 obtain⟨u,hu,hr⟩:=pJ h3 hv'
 have hg:s.get i=some u:=by
  unfold Slots.get
  rw [KZ (l:=s),h2,K2,KZ,hu]
  rfl
 obtain⟨x,hx,hxr⟩:=hs.2 i u hg
 exact⟨x,hx,tq hr hxr⟩
def A1:Nat->Nat->bu->Bool
 |0,n0,ρ=>ρ.all fun|some (n,none)=>decide (n0<=n)|some (_,some _)=>false|none=>true
 |k+1,n0,some (n,none)::ρ=>n == n0 && A1 k (n0+1) ρ
 |_,_,_=>false
def ju (ρ:bu) (n0:Nat) (t s:S):Prop:=A1 n0 0 ρ=true/\cG ρ t.hp=true/\yB ρ t.sl s.sl/\ii ρ s.hp ρ t.hp
theorem DI:∀ {k n0:Nat} {ρ:bu},A1 k n0 ρ=true->(∀ i,i < k->ρ[i]? =some (some (n0+i,none)))/\(∀ i n d,k<=i->ρ[i]? =some (some (n,d))->d=none/\n0+k<=n)
 |0,n0,ρ,h=>by
  refine⟨fun i hi=>by omega,fun i n d _ hr=>?_⟩
  have:=K3.1 (by simpa [A1] using h) _ (K6 hr)
  cases d with
  |none=>exact⟨rfl,by simpa using this⟩
  |some d=>cases this
 |k+1,n0,ρ,h=>by
  cases ρ with
  |nil=>cases h
  |cons x ρ=>
   cases x with
   |none=>cases h
   |some x=>
    obtain⟨n,d⟩:=x
    cases d with
    |some d=>cases h
    |none=>
     simp only [A1,K0,beq_iff_eq] at h
     obtain⟨rfl,h⟩:=h
     obtain⟨h1,h2⟩:=DI h
     refine⟨fun i hi=>?_,fun i m d hi hr=>?_⟩
     ·cases i with
      |zero=>simp
      |succ i=>
       rw [K5,h1 i zO]
       simp only [Option.some.injEq,Prod.mk.injEq,and_true]
       omega
     cases i with
     |zero=>omega
     |succ i=>
      rw [K5] at hr
      obtain⟨h3,h4⟩:=h2 i m d zO hr
      exact⟨h3,zO⟩
theorem wz {E:Entry} {n0:Nat} (hE:E.h.length=n0) {ρ:bu} {t s:S} (h:ju ρ n0 t s) {β:Be} {a:Act} {w:World} (hs:Sim E β s a w):Sim E (dt β ρ) t a w:=by
 obtain⟨hid,hsep,hsl,hhp⟩:=h
 obtain⟨hlo,hhi⟩:=DI hid
 have hlen:=gA hhp
 have hl0:n0<=t.hp.length:=by
  rw [<-hlen]
  rcases Ld ρ.length n0 with h1|h1
  ·have:=hlo ρ.length h1
   rw [Lp (LG _)] at this
   cases this
  exact h1
 refine⟨hs.dfr,uO hsl hs.sl,uN hs.hp hhp hsep,hs.ent,?_⟩
 have st:=hs.st
 refine⟨fun o p hp=>?_,st.os,st.tape,st.output,st.size,st.block,by rw [hE];exact hl0,fun o ob hlt ho=>?_,fun o ob p hge ho hp=>?_⟩
 ·have hlt:o < n0:=by rw [<-hE,<-hs.ent];exact (K7.1 hp).1
  have h1:=hlo o hlt
  rw [Lq] at h1
  rw [aG β h1]
  dsimp only
  rw [KZ,st.le o p hp]
  rfl
 ·rw [hE] at hlt
  have h1:=hlo o hlt
  rw [Lq] at h1
  rcases eN hhp ho with⟨hr,_⟩|⟨n,d,ob',hr,hn,hob⟩
  ·rw [h1] at hr;cases hr
  rw [h1] at hr
  simp only [Option.some.injEq,Prod.mk.injEq] at hr
  obtain⟨rfl,rfl⟩:=hr
  obtain⟨ob0,ho0,hown0⟩:=st.old o ob' (by rw [hE];exact hlt) hn
  exact⟨ob0,ho0,fun h=>hown0 (iJ hob h).2⟩
 rw [hE] at hge
 rcases eN hhp ho with⟨hr,_⟩|⟨n,d,ob',hr,hn,hob⟩
 ·rw [aG β hr] at hp;cases hp
 obtain⟨rfl,hge'⟩:=hhi o n d hge hr
 rw [aG β hr] at hp
 simp only [Option.some.injEq] at hp
 rw [KZ] at hp
 have hb:β[n]? =some (some p):=by
  cases h:β[n]? with
  |none=>rw [h] at hp;cases hp
  |some z=>rw [h] at hp;simp only [K2] at hp;rw [hp]
 exact st.fresh n ob' p (by rw [hE];omega) hn hb
theorem DJ {P:Program} {E:Entry} {n0:Nat} (hE:E.h.length=n0) {ρ:bu} {t s:S} (h:ju ρ n0 t s) {C:Code} {K:Exit->S->Prop} (hd:mP P E C t K):mP P E C s K:=
 fun β a w hs Q hQ=>hd _ a w (wz hE h hs) Q hQ
def S.kill (l:Slots):List Nat->Slots
 |[]=>l
 |k::r=>S.kill (l.put k none) r
def S.sets (l:Slots):List (Nat×AV)->Slots
 |[]=>l
 |(k,v)::r=>S.sets (l.put k (some v)) r
def S.at (s:S) (kill:List Nat) (set:List (Nat×AV)) (h:Hp):S:=⟨S.sets (S.kill s.sl kill) set,h⟩
theorem iK {P:Program} {E:Entry} {F:S->Prop} {b:Code} {k:List dP} {s:S} {c:Prop} {ι:Type} (n0:Nat) (hE:E.h.length=n0) (mk:S->ι->S) (J:ι->Prop) (μ:ι->Nat) (i0:ι) (ρ0:bu) (hc:c) (hJ:J i0) (h0:ju ρ0 n0 (mk s i0) s)
  (h:∀ i,J i->∀ N:S->Prop,(∀ (s':S) (j:ι) (ρ:bu),J j->μ j < μ i->ju ρ n0 (mk s j) s'->N s')->eD P E F (.go (.code b::.hook N::k) (mk s i) True)):eD P E F (.lp b k s c):=by
 refine⟨hc,wv (fun _=>True) (fun s' n=>∃ i ρ,J i/\ju ρ n0 (mk s i) s'/\μ i=n) (μ i0) ⟨trivial,i0,ρ0,hJ,h0,rfl⟩ fun s' n _ ⟨i,ρ,hi,hw,hn⟩=>?_⟩
 have hd:=(h i hi (fun s''=>∃ j ρ,J j/\μ j < μ i/\ju ρ n0 (mk s j) s'') fun s'' j ρ' hj hlt hw'=>⟨j,ρ',hj,hlt,hw'⟩).2
 refine DJ hE hw (d9 hd fun e s'' hk=>?_)
 cases e with
 |normal=>
  obtain⟨j,ρ',hj,hlt,hw'⟩:=hk
  exact⟨trivial,μ j,zO,j,ρ',hj,hw',rfl⟩
 |_=>exact hk
theorem bM {ρ:bu} {n0:Nat} {t s:S} (h1:A1 n0 0 ρ=true) (h2:cG ρ t.hp=true) (h:yB ρ t.sl s.sl/\ii ρ s.hp ρ t.hp):ju ρ n0 t s:=⟨h1,h2,h.1,h.2⟩
end
section
open Go.RowKit
def mT (ρ:bu) (N o:Nat):Option (Nat×Option Nat):=if o < ρ.length then ρ.at o else some (N+(o - ρ.length),none)
def lK (ρ:bu) (N:Nat):Sc->Sc
 | .sl o off len=>match mT ρ N o with
  |some (n,none)=>.sl n off len
  |some (n,some d)=>.sl n (off+d) len
  |none=>.nil
 | .pt o k j=>match mT ρ N o with
  |some (n,none)=>.pt n k j
  |some (n,some d)=>.pt n (k+d) j
  |none=>.nil
 | .int k n=>.int k n
 | .bo b=>.bo b
 | .st l=>.st l
 | .nil=>.nil
 | .un=>.un
def lL (ρ:bu) (N:Nat):List Sc->List Sc
 |[]=>[]
 |a::l=>lK ρ N a::lL ρ N l
def DK (ρ:bu) (N:Nat):Co->Co
 | .sc a=>.sc (lK ρ N a)
 | .ag l=>.ag (lL ρ N l)
def A2 (ρ:bu) (N:Nat):List Co->List Co
 |[]=>[]
 |a::l=>DK ρ N a::A2 ρ N l
def gU (ρ:bu) (N:Nat):AV->AV
 | .sc a=>.sc (lK ρ N a)
 | .ag l=>.ag (lL ρ N l)
 | .tu l=>.tu (A2 ρ N l)
 | .cl f l=>.cl f (lL ρ N l)
def pK (ρ:bu) (N:Nat):List (List Sc)->List (List Sc)
 |[]=>[]
 |a::l=>lL ρ N a::pK ρ N l
def fg (ρ:bu) (N:Nat) (ob:AObj):AObj:=
 match ob.fl with
 |true=>ob
 |false=>{ ob with cs:=pK ρ N ob.cs }
def gB (ρ:bu) (N:Nat):Hp->Hp
 |[]=>[]
 |none::h=>none::gB ρ N h
 |some ob::h=>some (fg ρ N ob)::gB ρ N h
def jv (ρ:bu) (N:Nat):Option AObj->Option AObj
 |none=>none
 |some ob=>some (fg ρ N ob)
def dK (ρ0:bu) (N:Nat):bu->Hp->Hp->Hp->Hp
 |some (n,_)::ρ,some t::h,t'::h',s=>match t.own with
  |true=>dK ρ0 N ρ h h' (s.set n (jv ρ0 N t'))
  |false=>dK ρ0 N ρ h h' s
 |_::ρ,_::h,_::h',s=>dK ρ0 N ρ h h' s
 |_,_,_,s=>s
def cQ (ρ:bu) (h0 h0' s:Hp):Hp:=dK ρ s.length ρ h0 h0' s++gB ρ s.length (h0'.drop h0.length)
theorem fP (ρ0:bu) (N:Nat):∀ (ρ:bu) (h h' s:Hp),(dK ρ0 N ρ h h' s).length=s.length
 |[],_,_,s=>by simp [dK]
 |x::ρ,[],_,s=>by cases x<;>simp [dK]
 |x::ρ,y::h,[],s=>by cases x<;>cases y<;>simp [dK]
 |none::ρ,y::h,z::h',s=>by cases y<;>simp [dK,fP ρ0 N ρ h h' s]
 |some x::ρ,none::h,z::h',s=>by simp [dK,fP ρ0 N ρ h h' s]
 |some (n,d)::ρ,some t::h,z::h',s=>by
  cases ho:t.own
  ·simp [dK,ho,fP ρ0 N ρ h h' s]
  simp [dK,ho,fP ρ0 N ρ h h' (s.set n (jv ρ0 N z))]
theorem fm {ρ0:bu} {N o:Nat}:∀ {ρ:bu} {h h' s:Hp},(∀ (i:Nat) (d:Option Nat) (t:AObj),ρ[i]? =some (some (o,d))->h[i]? =some (some t)->t.own=false)->(dK ρ0 N ρ h h' s)[o]? =s[o]?
 |[],_,_,s,_=>by simp [dK]
 |x::ρ,[],_,s,_=>by cases x<;>simp [dK]
 |x::ρ,y::h,[],s,_=>by cases x<;>cases y<;>simp [dK]
 |none::ρ,y::h,z::h',s,hx=>by
  cases y<;>simpa [dK] using fm (ρ:=ρ) (h:=h) (h':=h') (s:=s) (fun i d t h1 h2=>hx (i+1) d t (by simpa using h1) (by simpa using h2))
 |some x::ρ,none::h,z::h',s,hx=>by
  simpa [dK] using fm (ρ:=ρ) (h:=h) (h':=h') (s:=s) (fun i d t h1 h2=>hx (i+1) d t (by simpa using h1) (by simpa using h2))
 |some (n,d)::ρ,some t::h,z::h',s,hx=>by
  cases ho:t.own
  ·simpa [dK,ho] using fm (ρ:=ρ) (h:=h) (h':=h') (s:=s) (fun i d t h1 h2=>hx (i+1) d t (by simpa using h1) (by simpa using h2))
  have hne:n≠o:=fun e=>by
   subst e
   have:=hx 0 d t zP zP
   rw [ho] at this;cases this
  have:=fm (ρ0:=ρ0) (N:=N) (ρ:=ρ) (h:=h) (h':=h') (s:=s.set n (jv ρ0 N z)) (fun i d t h1 h2=>hx (i+1) d t (by simpa using h1) (by simpa using h2))
  simp only [dK,ho]
  rw [this,LF hne]
theorem jw {ρ0:bu} {N o:Nat}:∀ {ρ:bu} {h h' s:Hp},cG ρ h=true->o < s.length->∀ {i:Nat} {d:Option Nat} {t:AObj} {x:Option AObj},ρ[i]? =some (some (o,d))->h[i]? =some (some t)->t.own=true->h'[i]? =some x->(dK ρ0 N ρ h h' s)[o]? =some (jv ρ0 N x)
 |[],_,_,s,_,_,i,d,t,x,h1,_,_,_=>by simp at h1
 |_::_,[],_,s,_,_,i,d,t,x,_,h2,_,_=>by simp at h2
 |_::_,_::_,[],s,_,_,i,d,t,x,_,_,_,h4=>by simp at h4
 |y::ρ,u::h,z::h',s,hs,hlt,0,d,t,x,h1,h2,h3,h4=>by
  simp only [K_,Option.some.injEq] at h1 h2 h4
  subst h1;subst h2;subst h4
  have hx:∀ (i:Nat) (d':Option Nat) (t':AObj),ρ[i]? =some (some (o,d'))->h[i]? =some (some t')->t'.own=false:=by
   intro i d' t' k1 k2
   cases ho:t'.own with
   |false=>rfl
   |true=>exact absurd rfl (lJ (n:=o) (m:=o) (d:=d) (e:=d') (t:=t) (u:=t') hs (show 0 < i+1 by omega) zP zP (by simpa using k1) (by simpa using k2) (.inl h3))
  simp only [dK,h3]
  rw [fm hx,LM hlt]
 |y::ρ,u::h,z::h',s,hs,hlt,i+1,d,t,x,h1,h2,h3,h4=>by
  simp only [K5] at h1 h2 h4
  cases y with
  |none=>cases u<;>simpa [dK] using jw (ρ:=ρ) (h:=h) (h':=h') (s:=s) (ij hs) hlt h1 h2 h3 h4
  |some y=>
   obtain⟨n,e⟩:=y
   cases u with
   |none=>simpa [dK] using jw (ρ:=ρ) (h:=h) (h':=h') (s:=s) (ij hs) hlt h1 h2 h3 h4
   |some u=>
    cases ho:u.own
    ·simpa [dK,ho] using jw (ρ:=ρ) (h:=h) (h':=h') (s:=s) (ij hs) hlt h1 h2 h3 h4
    simpa [dK,ho] using jw (ρ:=ρ) (h:=h) (h':=h') (s:=s.set n (jv ρ0 N z)) (ij hs) (by simpa using hlt) h1 h2 h3 h4
theorem mU (ρ:bu) (N:Nat):∀ (h:Hp) (o:Nat),(gB ρ N h)[o]? =(h[o]?).map (jv ρ N)
 |[],o=>by simp [gB]
 |none::h,0=>by simp [gB,jv]
 |some ob::h,0=>by simp [gB,jv]
 |none::h,o+1=>by simpa [gB] using mU ρ N h o
 |some ob::h,o+1=>by simpa [gB] using mU ρ N h o
def dE (β β0':Be) (n:Nat):Be:=β++β0'.drop n
section
variable {β β0':Be} {ρ:bu} {N:Nat}
theorem pL (hN:β.length=N) {o:Nat} (ho:ρ.length<=o):(dE β β0' ρ.length)[N+(o - ρ.length)]? =β0'[o]? :=by
 unfold dE
 rw [Lu zO,Lj]
 congr 1
 omega
theorem kU {o:Nat} (ho:o < β.length):(dE β β0' ρ.length)[o]? =β[o]? :=by
 unfold dE
 rw [Lc ho]
theorem uP {β:Be} {n:Nat} {p:Pl} (h:β.getD n none=some p):β[n]? =some (some p):=by
 rw [KZ] at h
 cases hx:β[n]? with
 |none=>rw [hx] at h;cases h
 |some y=>rw [hx] at h;simp only [K2] at h;rw [h]
theorem pM (hN:β.length=N) (hle:Be.le (dt β ρ) β0') {o:Nat} {p:Pl} (hp:β0'[o]? =some (some p)):
  ∃ (n:Nat) (d:Option Nat) (q:Pl),mT ρ N o=some (n,d)/\(dE β β0' ρ.length)[n]? =some (some q)/\p=(match d with
   |none=>q
   |some d=>{ q with base:=q.base+d*q.esz,avail:=q.avail - d*q.esz }):=by
 unfold mT
 by_cases hlt:o < ρ.length
 ·rw [if_pos hlt]
  have hx:ρ[o]? =some ρ[o]:=K8 hlt
  have hb:=hle _ _ (aG β hx)
  rw [hp] at hb
  simp only [Option.some.injEq] at hb
  have hat:ρ.at o=ρ[o]:=by unfold bu.at;rw [KZ,hx];rfl
  rw [hat]
  cases hr:ρ[o] with
  |none=>rw [hr] at hb;cases hb
  |some x=>
   obtain⟨n,d⟩:=x
   rw [hr] at hb
   cases d with
   |none=>
    dsimp only at hb
    have h1:=uP hb.symm
    exact⟨n,none,p,rfl,by rw [kU (K7.1 h1).1];exact h1,rfl⟩
   |some d=>
    dsimp only at hb
    cases hg:β.getD n none with
    |none=>rw [hg] at hb;cases hb
    |some q=>
     rw [hg] at hb
     simp only [Lg,Option.some.injEq] at hb
     have h1:=uP hg
     exact⟨n,some d,q,rfl,by rw [kU (K7.1 h1).1];exact h1,hb⟩
 rw [if_neg hlt]
 exact⟨N+(o - ρ.length),none,p,rfl,by rw [pL hN zO];exact hp,rfl⟩
theorem oW (hN:β.length=N) (hle:Be.le (dt β ρ) β0'):∀ {s:Sc} {v:Value},ScR β0' s v->ScR (dE β β0' ρ.length) (lK ρ N s) v
 | .int ..,_,h=>h
 | .bo _,_,h=>h
 | .st _,_,h=>h
 | .nil,_,h=>h
 | .un,_,h=>h
 | .sl o off len,v,⟨a,cap,hv,h1,h2,h3⟩=>by
  rcases h3 with h3|⟨p,hp,ha,hav⟩
  ·subst h3
   have:len=0:=zO
   subst this
   subst hv
   simp only [lK]
   split
   ·exact⟨a,0,rfl,LG _,h2,.inl rfl⟩
   ·exact⟨a,0,rfl,LG _,h2,.inl rfl⟩
   exact⟨a,rfl⟩
  obtain⟨n,d,q,hn,hq,hpq⟩:=pM hN hle hp
  simp only [lK,hn]
  cases d with
  |none=>
   dsimp only at hpq
   subst hpq
   exact⟨a,cap,hv,h1,h2,.inr ⟨p,hq,ha,hav⟩⟩
  |some d=>
   dsimp only at hpq
   subst hpq
   dsimp only at ha hav
   by_cases hc:cap=0
   ·exact⟨a,cap,hv,h1,h2,.inl hc⟩
   refine⟨a,cap,hv,h1,h2,?_⟩
   by_cases hz:q.esz=0
   ·refine .inr ⟨q,hq,?_,?_⟩
    ·rw [ha,hz];simp
    rw [hz];simp
   refine .inr ⟨q,hq,?_,?_⟩
   ·rw [ha]
    simp only [Option.some.injEq,Addr.mk.injEq,and_true,true_and]
    rw [Ln]
    omega
   have hpos:0 < (off+cap)*q.esz:=Nat.mul_pos zO zO
   rw [show off+d+cap=(off+cap)+d from by omega,Ln]
   omega
 | .pt o k j,v,⟨p,hp,hv⟩=>by
  obtain⟨n,d,q,hn,hq,hpq⟩:=pM hN hle hp
  simp only [lK,hn]
  cases d with
  |none=>
   dsimp only at hpq
   subst hpq
   exact⟨p,hq,hv⟩
  |some d=>
   dsimp only at hpq
   subst hpq
   refine⟨q,hq,?_⟩
   rw [hv]
   simp only [Value.pointer.injEq,Option.some.injEq,Addr.mk.injEq,and_true,true_and]
   rw [Ln]
   omega
theorem uQ (hN:β.length=N) (hle:Be.le (dt β ρ) β0'):∀ {s:List Sc} {vs:List Value},L2 (ScR β0') s vs->L2 (ScR (dE β β0' ρ.length)) (lL ρ N s) vs
 |[],[],_=>trivial
 |a::l,v::vs,h=>⟨oW hN hle h.1,uQ hN hle h.2⟩
 |[],_::_,h=>h.elim
 |_::_,[],h=>h.elim
theorem FX (hN:β.length=N) (hle:Be.le (dt β ρ) β0') {s:Co} {v:Value} (h:yE β0' s v):yE (dE β β0' ρ.length) (DK ρ N s) v:=by
 cases s with
 |sc s=>exact oW hN hle h
 |ag l=>obtain⟨vs,hv,hl⟩:=h;exact⟨vs,hv,uQ hN hle hl⟩
theorem A3 (hN:β.length=N) (hle:Be.le (dt β ρ) β0'):∀ {s:List Co} {vs:List Value},L2 (yE β0') s vs->L2 (yE (dE β β0' ρ.length)) (A2 ρ N s) vs
 |[],[],_=>trivial
 |a::l,v::vs,h=>⟨FX hN hle h.1,A3 hN hle h.2⟩
 |[],_::_,h=>h.elim
 |_::_,[],h=>h.elim
theorem FY (hN:β.length=N) (hle:Be.le (dt β ρ) β0') {s:AV} {v:Value} (h:dZ β0' s v):dZ (dE β β0' ρ.length) (gU ρ N s) v:=by
 cases s with
 |sc s=>exact oW hN hle h
 |ag l=>obtain⟨vs,hv,hl⟩:=h;exact⟨vs,hv,uQ hN hle hl⟩
 |tu l=>obtain⟨vs,hv,hl⟩:=h;exact⟨vs,hv,A3 hN hle hl⟩
 |cl f l=>obtain⟨vs,hv,hl⟩:=h;exact⟨vs,hv,uQ hN hle hl⟩
theorem wA (ρ:bu) (N:Nat):∀ (l:List Sc) (i:Nat),(lL ρ N l)[i]? =(l[i]?).map (lK ρ N)
 |[],i=>by simp [lL]
 |a::l,0=>by simp [lL]
 |a::l,i+1=>by simpa [lL] using wA ρ N l i
theorem nU (ρ:bu) (N:Nat):∀ (l:List Sc),(lL ρ N l).length=l.length
 |[]=>rfl
 |a::l=>by simp [lL,nU ρ N l]
theorem tv (ρ:bu) (N:Nat):∀ (l:List (List Sc)) (i:Nat),(pK ρ N l)[i]? =(l[i]?).map (lL ρ N)
 |[],i=>by simp [pK]
 |a::l,0=>by simp [pK]
 |a::l,i+1=>by simpa [pK] using tv ρ N l i
theorem gC (ob:AObj):(fg ρ N ob).esz=ob.esz/\(fg ρ N ob).ty=ob.ty/\(fg ρ N ob).own=ob.own/\(fg ρ N ob).fl=ob.fl:=by
 unfold fg
 split<;>simp_all
theorem A4 (hN:β.length=N) (hle:Be.le (dt β ρ) β0') {w:World} {p:Option Pl} {ob:AObj} (h:ObR β0' w p ob) (hflat:ob.fl=true->FlatL ob.cs):ObR (dE β β0' ρ.length) w p (fg ρ N ob):=by
 obtain⟨e1,e2,e3,e4⟩:=gC (ρ:=ρ) (N:=N) ob
 cases p with
 |none=>
  have h0:ob.cs=[]:=h
  show (fg ρ N ob).cs=[]
  unfold fg
  split
  ·exact h0
  rw [h0];rfl
 |some p=>
  obtain⟨he,arr,T,fz,hh,hc,ho⟩:=h
  refine⟨by rw [e1];exact he,arr,T,fz,hh,?_,by rw [e2,e3];exact ho⟩
  rw [e1]
  unfold fg
  split
  ·rename_i hf
   exact fun k c hk=>⟨(hc k c hk).1,fun j s hs=>let⟨v,hv,hr⟩:=(hc k c hk).2 j s hs;⟨v,hv,mR (dD.1 (hflat hf c (K6 hk)) s (K6 hs)) hr⟩⟩
  intro k c hk
  dsimp only at hk
  rw [tv] at hk
  simp only [Lo] at hk
  obtain⟨c0,hk0,rfl⟩:=hk
  obtain⟨h1,h2⟩:=hc k c0 hk0
  refine⟨by rw [nU];exact h1,fun j s hs=>?_⟩
  rw [wA] at hs
  simp only [Lo] at hs
  obtain⟨s0,hs0,rfl⟩:=hs
  obtain⟨v,hv,hr⟩:=h2 j s0 hs0
  exact⟨v,hv,oW hN hle hr⟩
end
theorem A5 {β:Be} {ρ:bu} {s t:Hp} (hm:ii ρ s ρ t) {k:Nat} (h:Own (dt β ρ) t k):∃ (i n:Nat) (ob':AObj) (p:Pl),ρ[i]? =some (some (n,none))/\s[n]? =some (some ob')/\ob'.own=true/\β[n]? =some (some p)/\(dt β ρ)[i]? =some (some p)/\p.blk=k/\∃ ob:AObj,t[i]? =some (some ob)/\ob.own=true:=by
 obtain⟨i,ob,p,ho,hown,hp,rfl⟩:=h
 rcases eN hm ho with⟨hr,_⟩|⟨n,d,ob',hr,hn,hob⟩
 ·rw [aG β hr] at hp;cases hp
 obtain⟨rfl,hown'⟩:=iJ hob hown
 have hp':=hp
 rw [aG β hr] at hp'
 simp only [Option.some.injEq] at hp'
 exact⟨i,n,ob',p,hr,hn,hown',uP hp',hp,rfl,ob,ho,hown⟩
theorem pN {P:Program} {args0 avs:List AV} {h0 h0' s:Hp} {res0:AV} (ρ:bu) (hargs:kT ρ args0 avs) (hm:ii ρ s ρ h0) (hsep:cG ρ h0=true) {β:Be} {w:World} {vs:List Value} (hs:HSim β s w) (hvs:L2 (dZ β) avs vs) {e:Ending} {w':World}
  (hend:∃ β' v,e=.returned v/\dZ β' res0 v/\HSim β' h0' w'/\StepR (dt β ρ) β' h0 h0' w w'):∃ β' v,e=.returned v/\dZ β' (gU ρ s.length res0) v/\HSim β' (cQ ρ h0 h0' s) w'/\StepR β β' s (cQ ρ h0 h0' s) w w':=by
 have hlen:ρ.length=h0.length:=gA hm
 obtain⟨β0',v,he,hr,hh,hst⟩:=hend
 have hN:β.length=s.length:=hs.len
 have hle:=hst.le
 have hl0':h0.length<=h0'.length:=hst.len
 have hblk:∀ {o:Nat} {ob:AObj} {p:Pl},s[o]? =some (some ob)->β[o]? =some (some p)->(∀ (i:Nat) (d:Option Nat) (t:AObj),ρ[i]? =some (some (o,d))->h0[i]? =some (some t)->t.own=false)->w'.heap[p.blk]? =w.heap[p.blk]? :=by
  intro o ob p ho hp hx
  obtain⟨q,hq,hR⟩:=hs.ob o ob ho
  rw [hp] at hq;cases hq
  refine hst.block _ hR.lt fun hown=>?_
  obtain⟨i,n,ob',q,hr1,hn,hown',hq,_,hqb,t,ht,hto⟩:=A5 hm hown
  by_cases hno:n=o
  ·subst hno
   have:=hx i none t hr1 ht
   rw [hto] at this;cases this
  exact hs.apart n o ob' ob q p hn ho hown' hq hp hno hqb
 have hlenU:(dK ρ s.length ρ h0 h0' s).length=s.length:=fP _ _ _ _ _ _
 have kind:∀ {o:Nat} {x:AObj},(cQ ρ h0 h0' s)[o]? =some (some x)->
   (o < s.length/\s[o]? =some (some x)/\(∀ (i:Nat) (d:Option Nat) (t:AObj),ρ[i]? =some (some (o,d))->h0[i]? =some (some t)->t.own=false))\/
   (o < s.length/\∃ (i:Nat) (x0 t ob:AObj),ρ[i]? =some (some (o,none))/\h0[i]? =some (some t)/\t.own=true/\s[o]? =some (some ob)/\ob.own=true/\h0'[i]? =some (some x0)/\i < h0.length/\x=fg ρ s.length x0)\/
   (∃ (i:Nat) (x0:AObj),h0.length<=i/\o=s.length+(i - h0.length)/\h0'[i]? =some (some x0)/\x=fg ρ s.length x0):=by
  intro o x hx
  unfold cQ at hx
  rcases Ld o s.length with hlt|hge
  ·rw [Lc (by rw [hlenU];exact hlt)] at hx
   by_cases hown:∃ (i:Nat) (d:Option Nat) (t:AObj),ρ[i]? =some (some (o,d))/\h0[i]? =some (some t)/\t.own=true
   ·obtain⟨i,d,t,h1,h2,h3⟩:=hown
    have hil:i < h0.length:=(K7.1 h2).1
    have hx':h0'[i]? =some (h0'[i]' zO):=K8 zO
    rw [jw hsep hlt h1 h2 h3 hx'] at hx
    rcases eN hm h2 with⟨hr1,_⟩|⟨n,d',ob',hr1,hn,hob⟩
    ·rw [h1] at hr1;cases hr1
    rw [h1] at hr1
    simp only [Option.some.injEq,Prod.mk.injEq] at hr1
    obtain⟨rfl,rfl⟩:=hr1
    obtain⟨rfl,hown'⟩:=iJ hob h3
    cases hz:h0'[i]' zO with
    |none=>rw [hz] at hx;cases hx
    |some x0=>
     rw [hz] at hx
     simp only [jv,Option.some.injEq] at hx
     exact .inr (.inl ⟨hlt,i,x0,t,ob',h1,h2,h3,hn,hown',by rw [hx',hz],hil,hx.symm⟩)
   have hx2:∀ (i:Nat) (d:Option Nat) (t:AObj),ρ[i]? =some (some (o,d))->h0[i]? =some (some t)->t.own=false:=by
    intro i d t h1 h2
    cases h3:t.own with
    |false=>rfl
    |true=>exact absurd ⟨i,d,t,h1,h2,h3⟩ hown
   rw [fm hx2] at hx
   exact .inl ⟨hlt,hx,hx2⟩
  rw [Lu (by rw [hlenU];exact hge),hlenU,mU,Lj] at hx
  simp only [Lo] at hx
  obtain⟨y,hy,hxy⟩:=hx
  cases y with
  |none=>cases hxy
  |some x0=>
   simp only [jv,Option.some.injEq] at hxy
   exact .inr (.inr ⟨h0.length+(o - s.length),x0,zO,zO,hy,hxy.symm⟩)
 have hnew:∀ {i:Nat},h0.length<=i->(dE β β0' ρ.length)[s.length+(i - h0.length)]? =β0'[i]? :=by
  intro i hi
  have:=pL (β:=β) (β0':=β0') (ρ:=ρ) hN (o:=i) zO
  rwa [hlen] at this⊢
 have hold:∀ {o:Nat},o < s.length->(dE β β0' ρ.length)[o]? =β[o]? :=fun h=>kU zO
 have hplace:∀ {i o:Nat} {q:Option Pl},ρ[i]? =some (some (o,none))->o < s.length->β0'[i]? =some q->β[o]? =some q:=by
  intro i o q h1 ho hq
  have hb:=hle _ _ (aG β h1)
  rw [hq] at hb
  simp only [Option.some.injEq] at hb
  have:β[o]? =some (β[o]' zO):=K8 zO
  rw [KZ,this] at hb
  rw [this,hb]
  rfl
 have hfresh:∀ {i:Nat} {x0:AObj} {p:Pl},h0.length<=i->h0'[i]? =some (some x0)->β0'[i]? =some (some p)->Own β s p.blk\/w.heap.size<=p.blk:=by
  intro i x0 p hi hx hp
  rcases hst.fresh i x0 p hi hx hp with h1|h1
  ·obtain⟨j,n,ob',q,hr1,hn,hown',hq,_,hqb,_⟩:=A5 hm h1
   exact .inl ⟨n,ob',q,hn,hown',hq,hqb⟩
  exact .inr h1
 refine⟨dE β β0' ρ.length,v,he,FY hN hle hr,⟨?_,?_,?_,?_⟩,⟨?_,hst.os,hst.tape,hst.output,hst.size,?_,?_,?_,?_⟩⟩
 ·
  unfold dE cQ
  have hr1:∀ h:Hp,(gB ρ s.length h).length=h.length:=by
   intro h
   induction h with
   |nil=>rfl
   |cons y h ih=>cases y<;>simp [gB,ih]
  simp only [Ll,List.length_drop,hlenU,hr1,hN,hh.len,hlen]
 ·intro o x hx
  rcases kind hx with⟨hlt,hsx,hx2⟩|⟨hlt,i,x0,t,ob,h1,h2,h3,hsx,hown,hx0,hil,rfl⟩|⟨i,x0,hi,rfl,hx0,rfl⟩
  ·obtain⟨q,hq,hR⟩:=hs.ob o x hsx
   refine⟨q,by rw [hold hlt];exact hq,(hR.world fun q' hq'=>?_).mono (Be.le_append _ _)⟩
   subst hq'
   exact hblk hsx hq hx2
  ·obtain⟨q,hq,hR⟩:=hh.ob i x0 hx0
   exact⟨q,by rw [hold hlt];exact hplace h1 hlt hq,A4 hN hle hR (hh.flat i x0 hx0)⟩
  obtain⟨q,hq,hR⟩:=hh.ob i x0 hx0
  exact⟨q,by rw [hnew hi];exact hq,A4 hN hle hR (hh.flat i x0 hx0)⟩
 ·intro o x hx hf
  have hflat:∀ {i:Nat} {x0:AObj},h0'[i]? =some (some x0)->(fg ρ s.length x0).fl=true->FlatL (fg ρ s.length x0).cs:=by
   intro i x0 hx0 hf
   have h4:=(gC (ρ:=ρ) (N:=s.length) x0).2.2.2
   rw [h4] at hf
   have:fg ρ s.length x0=x0:=by unfold fg;rw [hf]
   rw [this]
   exact hh.flat i x0 hx0 hf
  rcases kind hx with⟨hlt,hsx,hx2⟩|⟨hlt,i,x0,t,ob,h1,h2,h3,hsx,hown,hx0,hil,rfl⟩|⟨i,x0,hi,rfl,hx0,rfl⟩
  ·exact hs.flat o x hsx hf
  ·exact hflat hx0 hf
  exact hflat hx0 hf
 ·intro o o' x x' p p' hx hx' hxo hp hp' hne
  have oldp:∀ {o:Nat} {x:AObj} {p:Pl},(cQ ρ h0 h0' s)[o]? =some (some x)->o < s.length->(dE β β0' ρ.length)[o]? =some (some p)->∃ ob:AObj,s[o]? =some (some ob)/\(x.own=true->ob.own=true)/\β[o]? =some (some p):=by
   intro o x p hx hlt hp
   rw [hold hlt] at hp
   rcases kind hx with⟨_,hsx,_⟩|⟨_,i,x0,t,ob,h1,h2,h3,hsx,hown,hx0,hil,rfl⟩|⟨i,x0,hi,rfl,hx0,rfl⟩
   ·exact⟨x,hsx,id,hp⟩
   ·exact⟨ob,hsx,fun _=>hown,hp⟩
   omega
  have cross:∀ {o o':Nat} {x x':AObj} {p p':Pl},(cQ ρ h0 h0' s)[o]? =some (some x)->(cQ ρ h0 h0' s)[o']? =some (some x')->o < s.length->s.length<=o'->(x.own=true\/x'.own=true)->
    (dE β β0' ρ.length)[o]? =some (some p)->(dE β β0' ρ.length)[o']? =some (some p')->p.blk≠p'.blk:=by
   intro o o' x x' p p' hx hx' hlt hge hor hp hp' hbb
   obtain⟨ob,hsx,hown,hbp⟩:=oldp hx hlt hp
   rcases kind hx' with⟨h1,_⟩|⟨h1,_⟩|⟨i',x0',hi',rfl,hx0',rfl⟩
   ·omega
   ·omega
   rw [hnew hi'] at hp'
   rcases hst.fresh i' x0' p' hi' hx0' hp' with hO|hO
   ·obtain⟨j,n,ob',q,hr1,hn,hown',hq,hbq,hqb,t,ht,hto⟩:=A5 hm hO
    by_cases hno:n=o
    ·subst hno
     rcases kind hx with⟨_,_,hx2⟩|⟨_,i,x0,t',ob2,h1,h2,h3,_,_,hx0,hil,rfl⟩|⟨i,x0,hi,he2,_⟩
     ·have:=hx2 j none t hr1 ht
      rw [hto] at this;cases this
     ·have hij:i=j:=by
       by_cases hij:i=j
       ·exact hij
       exact absurd rfl (uM hsep hij h1 h2 hr1 ht (.inl h3))
      subst hij
      have hbi:β0'[i]? =some (some q):=hle _ _ hbq
      have hneq:i≠i':=zO
      rw [(gC (ρ:=ρ) (N:=s.length) x0).2.2.1,(gC (ρ:=ρ) (N:=s.length) x0').2.2.1] at hor
      rcases hor with ho1|ho1
      ·exact hh.apart i i' x0 x0' q p' hx0 hx0' ho1 hbi hp' hneq hqb
      exact hh.apart i' i x0' x0 p' q hx0' hx0 ho1 hp' hbi (Ne.symm hneq) hqb.symm
     omega
    exact hs.apart n o ob' ob q p hn hsx hown' hq hbp hno (by rw [hqb,hbb])
   obtain⟨q,hq,hR⟩:=hs.ob o ob hsx
   rw [hbp] at hq
   cases hq
   have:=hR.lt
   omega
  rcases Ld o s.length with hlt|hge
  ·rcases Ld o' s.length with hlt'|hge'
   ·obtain⟨ob,hsx,hown,hbp⟩:=oldp hx hlt hp
    obtain⟨ob',hsx',_,hbp'⟩:=oldp hx' hlt' hp'
    exact hs.apart o o' ob ob' p p' hsx hsx' (hown hxo) hbp hbp' hne
   exact cross hx hx' hlt hge' (.inl hxo) hp hp'
  rcases Ld o' s.length with hlt'|hge'
  ·exact (cross hx' hx hlt' hge (.inr hxo) hp' hp).symm
  rcases kind hx with⟨h1,_⟩|⟨h1,_⟩|⟨i,x0,hi,rfl,hx0,rfl⟩
  ·omega
  ·omega
  rcases kind hx' with⟨h1,_⟩|⟨h1,_⟩|⟨i',x0',hi',rfl,hx0',rfl⟩
  ·omega
  ·omega
  rw [hnew hi] at hp
  rw [hnew hi'] at hp'
  rw [(gC (ρ:=ρ) (N:=s.length) x0).2.2.1] at hxo
  exact hh.apart i i' x0 x0' p p' hx0 hx0' hxo hp hp' (fun e=>hne (by rw [e]))
 ·exact Be.le_append _ _
 ·intro k hk hno
  refine hst.block k hk fun hown=>?_
  obtain⟨i,n,ob',q,hr1,hn,hown',hq,_,hqb,_⟩:=A5 hm hown
  exact hno ⟨n,ob',q,hn,hown',hq,hqb⟩
 ·unfold cQ
  rw [Ll,hlenU]
  omega
 ·intro o x hlt hx
  rcases kind hx with⟨_,hsx,_⟩|⟨_,i,x0,t,ob,h1,h2,h3,hsx,hown,hx0,hil,rfl⟩|⟨i,x0,hi,rfl,hx0,rfl⟩
  ·exact⟨x,hsx,id⟩
  ·exact⟨ob,hsx,fun _=>hown⟩
  omega
 intro o x p hge hx hp
 rcases kind hx with⟨h1,_⟩|⟨h1,_⟩|⟨i,x0,hi,rfl,hx0,rfl⟩
 ·omega
 ·omega
 rw [hnew hi] at hp
 exact hfresh hi hx0 hp
theorem wB {P:Program} {f:FuncId} {args0 avs:List AV} {h0 h0' s:Hp} {res0:AV} (ρ:bu) (hargs:kT ρ args0 avs) (hm:ii ρ s ρ h0) (hsep:cG ρ h0=true) {β:Be} {w:World} {vs:List Value}
  (hcall:∀ vs,HSim (dt β ρ) h0 w->L2 (dZ (dt β ρ)) args0 vs->Calls P f vs.toArray w fun e w'=>∃ β' v,e=.returned v/\dZ β' res0 v/\HSim β' h0' w'/\StepR (dt β ρ) β' h0 h0' w w') (hs:HSim β s w) (hvs:L2 (dZ β) avs vs):
  Calls P f vs.toArray w fun e w'=>∃ β' v,e=.returned v/\dZ β' (gU ρ s.length res0) v/\HSim β' (cQ ρ h0 h0' s) w'/\StepR β β' s (cQ ρ h0 h0' s) w w':=
 (hcall vs (uN hs hm hsep) (yT hargs hvs)).mono fun e w' h=>pN (P:=P) ρ hargs hm hsep hs hvs h
theorem pO {P:Program} {f:FuncId} {args0 avs:List AV} {h0 h0' s:Hp} {res0:AV} (ct:dJ P f args0 h0 res0 h0') (ρ:bu) (hargs:kT ρ args0 avs) (hm:ii ρ s ρ h0) (hsep:cG ρ h0=true):
  dJ P f avs s (gU ρ s.length res0) (cQ ρ h0 h0' s):=
 ⟨ct.1,fun β w vs hs hvs=>wB ρ hargs hm hsep (fun vs h1 h2=>ct.2 _ w vs h1 h2) hs hvs⟩
theorem jz {P:Program} {E:Entry} {F:S->Prop} {f:FuncId} {avs:List AV} {d:Option Tmp} {k:List dP} {s:S} {c:Prop} {args0:List AV} {h0 h0':Hp} {res0:AV} (hc:c) (ct:dJ P f args0 h0 res0 h0') (ρ:bu)
  (hm:kT ρ args0 avs/\ii ρ s.hp ρ h0) (hsep:cG ρ h0=true) (hk:eD P E F (.go k (s.put d (some (gU ρ s.hp.length res0)) (cQ ρ h0 h0' s.hp)) True)):eD P E F (.call f avs d k s c):=
 ⟨hc,(pO ct ρ hm.1 hm.2 hsep).e.r hk.2⟩
def dW {α:Type}:Nat->List α->List (List α)
 |0,_=>[]
 |n+1,l=>match l with
  |[]=>[]
  |l=>l.take 16::dW n (l.drop 16)
def mV:Nat->List AV->List (Option AV)
 |0,l=>l.map some
 |n+1,[]=>none::mV n []
 |n+1,a::l=>some a::mV n l
theorem lM:∀ (n:Nat) (args:List AV),mV n args=args.map some++List.replicate (n - args.length) none
 |0,l=>by simp [mV]
 |n+1,[]=>by simp [mV,lM n [],LQ]
 |n+1,a::l=>by simp [mV,lM n l]
def jA (n:Nat) (args:List AV):Slots:=dW (n / 16+1) (mV n args)
theorem kV {α:Type} (d:Option α):∀ (m:Nat) (l:List (Option α)) (i:Nat),l.length<=16*m->((dW m l).getD (i / 16) []).getD (i % 16) none=l.getD i none/\(i % 16 < ((dW m l).getD (i / 16) []).length->i < l.length)
 |0,l,i,h=>by
  have:l=[]:=List.eq_nil_of_length_eq_zero zO
  subst this
  simp [dW]
 |m+1,[],i,h=>by simp [dW]
 |m+1,a::l,i,h=>by
  simp only [dW]
  rcases Ld i 16 with hi|hi
  ·have h1:i / 16=0:=zO
   have h2:i % 16=i:=zO
   rw [h1,h2]
   simp only [Lv]
   refine⟨?_,fun h3=>by simp at h3⊢;omega⟩
   rw [KZ,Lk hi,KZ]
  have h1:i / 16=(i - 16) / 16+1:=zO
  have h2:i % 16=(i - 16) % 16:=zO
  rw [h1,h2,Lw]
  obtain⟨e1,e2⟩:=kV d m ((a::l).drop 16) (i - 16) (by simp at h⊢;omega)
  refine⟨?_,fun h3=>?_⟩
  ·rw [e1,KZ,Lj,KZ]
   congr 2
   omega
  have:=e2 h3
  simp at this⊢
  omega
theorem tw {α:Type}:∀ (m:Nat) (l:List (Option α)) (i:Nat),i % 16 < ((dW m l).getD (i / 16) []).length->i < l.length
 |0,l,i,h=>by simp [dW] at h
 |m+1,[],i,h=>by simp [dW] at h
 |m+1,a::l,i,h=>by
  simp only [dW] at h
  rcases Ld i 16 with hi|hi
  ·have h1:i / 16=0:=zO
   have h2:i % 16=i:=zO
   rw [h1,h2] at h
   simp only [Lv] at h
   simp at h⊢
   omega
  have h1:i / 16=(i - 16) / 16+1:=zO
  have h2:i % 16=(i - 16) % 16:=zO
  rw [h1,h2,Lw] at h
  have:=tw m ((a::l).drop 16) (i - 16) h
  simp at this⊢
  omega
theorem nV {α:Type}:∀ (m:Nat) (l:List (Option α)) (i:Nat) (v:α),((dW m l).getD (i / 16) []).getD (i % 16) none=some v->l[i]? =some (some v)
 |0,l,i,v,h=>by simp [dW] at h
 |m+1,[],i,v,h=>by simp [dW] at h
 |m+1,a::l,i,v,h=>by
  simp only [dW] at h
  rcases Ld i 16 with hi|hi
  ·have h1:i / 16=0:=zO
   have h2:i % 16=i:=zO
   rw [h1,h2] at h
   simp only [Lv] at h
   rw [KZ,Lk hi] at h
   cases hx:(a::l)[i]? with
   |none=>rw [hx] at h;cases h
   |some y=>rw [hx] at h;simp only [K2] at h;rw [h]
  have h1:i / 16=(i - 16) / 16+1:=zO
  have h2:i % 16=(i - 16) % 16:=zO
  rw [h1,h2,Lw] at h
  have:=nV m ((a::l).drop 16) (i - 16) v h
  rw [Lj] at this
  rw [<-this]
  congr 1
  omega
theorem oX {β:Be} {n:Nat} {args:List AV} {vs:List Value} (h:L2 (dZ β) args vs):SlotsR β (jA n args) (vs.toArray++Array.replicate (n - vs.toArray.size) undef):=by
 have hl:=h.length
 have hpl:(mV n args).length=max args.length n:=by simp [lM];omega
 by_cases hn:args.length<=n
 ·have hb:(mV n args).length<=16*(n / 16+1):=by rw [hpl];omega
  refine⟨fun i hi=>?_,fun i v hv=>?_⟩
  ·have:=(kV (α:=AV) none (n / 16+1) (mV n args) i hb).2 hi
   rw [hpl] at this
   simp
   omega
  unfold Slots.get jA at hv
  rw [(kV (α:=AV) none (n / 16+1) (mV n args) i hb).1,KZ] at hv
  rw [lM] at hv
  rcases Ld i args.length with hi|hi
  ·rw [Lc (by simpa using hi),LZ] at hv
   have hx:args[i]? =some args[i]:=K8 hi
   rw [hx] at hv
   simp only [Lg,K2,Option.some.injEq] at hv
   obtain⟨u,hu,hr⟩:=h.get hx
   refine⟨u,?_,by rw [<-hv];exact hr⟩
   rw [LH zS]
   simpa using hu
  rw [Lu (by simpa using hi)] at hv
  rw [List.getElem?_replicate] at hv
  split at hv<;>cases hv
 have hrep:n - args.length=0:=zO
 have hpad:mV n args=args.map some:=by simp [lM,hrep]
 refine⟨fun i hi=>?_,fun i v hv=>?_⟩
 ·unfold Slots.has jA at hi
  rw [hpad] at hi
  have:=tw (n / 16+1) (args.map some) i hi
  simp at this⊢
  omega
 unfold Slots.get jA at hv
 rw [hpad] at hv
 have hx:=nV (n / 16+1) (args.map some) i v hv
 rw [LZ] at hx
 simp only [Lo] at hx
 obtain⟨y,hy,he⟩:=hx
 simp only [Option.some.injEq] at he
 subst he
 obtain⟨u,hu,hr⟩:=h.get hy
 refine⟨u,?_,hr⟩
 have hlt:=(K7.1 hu).1
 rw [LH (by simpa using hlt)]
 simpa using hu
end
section
open Go.RowKit
def A6 (P:Program) (s:S):ResultVar->Option AV
 | .tmp t=>s.sl.get t
 | .cell a t=>match s.sl.get a with
  |some (.sc (.pt o k j))=>match s.obj o with
   |some ob=>match ob.cs[k]? with
    |some c=>match cq P t with
     |true=>if j+cV P t<=c.length then some (.ag ((c.drop j).take (cV P t))) else none
     |false=>if dH P t then match c[j]? with
      |some x=>some (.sc x)
      |none=>none else none
    |none=>none
   |none=>none
  |_=>none
def tA (P:Program) (s:S):List ResultVar->Option (List AV)
 |[]=>some []
 |r::l=>match A6 P s r,tA P s l with
  |some v,some m=>some (v::m)
  |_,_=>none
def nW:List AV->Option (List Co)
 |[]=>some []
 | .sc x::l=>match nW l with
  |some m=>some (.sc x::m)
  |none=>none
 | .ag x::l=>match nW l with
  |some m=>some (.ag x::m)
  |none=>none
 |_::_=>none
def lN (P:Program) (s:S) (rs:List ResultVar):Option AV:=
 match tA P s rs with
 |some [v]=>some v
 |some l=>match nW l with
  |some m=>some (.tu m)
  |none=>none
 |none=>none
section
variable {P:Program} {β:Be} {s:S} {w:World} {tm:Array Value}
def mW (tm:Array Value):ResultVar->Sem Value
 | .tmp t=>pure (tm.getD t undef)
 | .cell a t=>do loadVar t (<-asAddr (tm.getD a undef))
theorem FZ (hs:HSim β s.hp w) (hsl:SlotsR β s.sl tm) {r:ResultVar} {v:AV} (h:A6 P s r=some v):∃ u,(mW tm r).run P w=.ok u w/\dZ β v u:=by
 have slot:∀ {t:Nat} {x:AV},s.sl.get t=some x->dZ β x (tm.getD t undef):=by
  intro t x hx
  obtain⟨u,hu,hr⟩:=hsl.2 t x hx
  have:tm.getD t undef=u:=by simp [K1,hu]
  rw [this];exact hr
 cases r with
 |tmp t=>exact⟨_,rfl,slot h⟩
 |cell a t=>
  simp only [A6] at h
  split at h
  ·rename_i o k j hx
   have hv:ScR β (.pt o k j) (tm.getD a undef):=slot hx
   have hrun:∀ {u:Value},(Instr.loadAt t (tm.getD a undef)).run P w=.ok u w->(mW tm (.cell a t)).run P w=.ok u w:=by
    intro u hu
    obtain⟨p,_,hpe⟩:=hv
    rw [hpe] at hu
    show ((do loadVar t (<-asAddr (tm.getD a undef)):Sem Value)).run P w=.ok u w
    rw [hpe]
    simpa [Instr.loadAt,Instr.sureAddr,asAddr] using hu
   split at h
   ·rename_i ob hob
    split at h
    ·rename_i c hk
     split at h
     ·rename_i hag
      split at h
      ·rename_i hn
       simp only [Option.some.injEq] at h
       subst h
       obtain⟨vs,h1,h2⟩:=lE hs hob hk hag hn hv
       exact⟨_,hrun h1,vs,rfl,h2⟩
      cases h
     rename_i hag
     split at h
     ·rename_i hkn
      split at h
      ·rename_i y hy
       simp only [Option.some.injEq] at h
       subst h
       obtain⟨u,h1,h2⟩:=lF hs hob hk hag hkn hy hv
       exact⟨u,hrun h1,h2⟩
      cases h
     cases h
    cases h
   cases h
  cases h
theorem uR (hs:HSim β s.hp w) (hsl:SlotsR β s.sl tm):∀ {rs:List ResultVar} {l:List AV},tA P s rs=some l->∃ us,(rs.mapM (mW tm)).run P w=.ok us w/\L2 (dZ β) l us
 |[],l,h=>by
  simp only [tA,Option.some.injEq] at h
  subst h
  exact⟨[],rfl,trivial⟩
 |r::rs,l,h=>by
  simp only [tA] at h
  split at h
  ·rename_i v m hv hm
   simp only [Option.some.injEq] at h
   subst h
   obtain⟨u,h1,h2⟩:=FZ hs hsl hv
   obtain⟨us,h3,h4⟩:=uR hs hsl hm
   refine⟨u::us,?_,h2,h4⟩
   simp only [List.mapM_cons,Lx,h1,LA,h3,LS]
  cases h
theorem uS:∀ {l:List AV} {m:List Co} {us:List Value},nW l=some m->L2 (dZ β) l us->L2 (yE β) m us
 |[],m,[],h,_=>by simp only [nW,Option.some.injEq] at h;subst h;trivial
 | .sc x::l,m,u::us,h,hu=>by
  simp only [nW] at h
  split at h
  ·rename_i m' hm
   simp only [Option.some.injEq] at h
   subst h
   exact⟨hu.1,uS hm hu.2⟩
  cases h
 | .ag x::l,m,u::us,h,hu=>by
  simp only [nW] at h
  split at h
  ·rename_i m' hm
   simp only [Option.some.injEq] at h
   subst h
   exact⟨hu.1,uS hm hu.2⟩
  cases h
 | .tu x::l,m,us,h,_=>by cases h
 | .cl f x::l,m,us,h,_=>by cases h
 |[],m,_::_,_,hu=>hu.elim
 | .sc _::_,m,[],_,hu=>hu.elim
 | .ag _::_,m,[],_,hu=>hu.elim
theorem pP (fn:Func) (tm:Array Value):results fn tm=(do let vs <-fn.results.mapM (mW tm);pure (if h:vs.size=1 then vs[0] else .tuple vs)):=by
 unfold results
 congr 1
theorem uT (hs:HSim β s.hp w) (hsl:SlotsR β s.sl tm) {fn:Func} {v:AV} (h:lN P s fn.results.toList=some v):∃ u,(results fn tm).run P w=.ok u w/\dZ β v u:=by
 have harr:∀ {us:List Value},(fn.results.toList.mapM (mW tm)).run P w=.ok us w->(fn.results.mapM (mW tm)).run P w=.ok us.toArray w:=by
  intro us hus
  rw [Array.mapM_eq_mapM_toList]
  have e:∀ (m:Sem (List Value)),(List.toArray <$> m)=(do pure (List.toArray (<-m))):=fun m=>rfl
  rw [e,Lx,hus]
  rfl
 unfold lN at h
 split at h
 ·rename_i x hx
  simp only [Option.some.injEq] at h
  subst h
  obtain⟨us,h1,h2⟩:=uR (P:=P) hs hsl hx
  match us,h2 with
  |[u],h2=>
   refine⟨u,?_,h2.1⟩
   rw [pP,Lx,harr h1]
   rfl
  |[],h2=>exact h2.elim
  |_::_::_,h2=>exact h2.2.elim
 ·rename_i l hne hx
  split at h
  ·rename_i m hm
   simp only [Option.some.injEq] at h
   subst h
   obtain⟨us,h1,h2⟩:=uR (P:=P) hs hsl hx
   refine⟨.tuple us.toArray,?_,us,rfl,uS hm h2⟩
   rw [pP,Lx,harr h1]
   have hl:=h2.length
   have h1':us.toArray.size≠1:=by
    intro he
    have:l.length=1:=by simpa [hl] using he
    match l,this with
    |[v],_=>exact hne v rfl
   simp only [LA,dif_neg h1']
   rfl
  cases h
 cases h
end
def yW (P:Program) (rs:List ResultVar) (n0:Nat) (res:AV) (h':Hp) (s:S):Prop:=
 ∃ v ρ,lN P s rs=some v/\A1 n0 0 ρ=true/\cG ρ h'=true/\yA ρ res v/\ii ρ s.hp ρ h'
theorem bN {P:Program} {E:Entry} {rs:List ResultVar} {n0:Nat} {res:AV} {h':Hp} {s:S} {c:Prop} (ρ:bu) (hc:c) (v:AV) (hr:lN P s rs=some v) (hid:A1 n0 0 ρ=true) (hsep:cG ρ h'=true) (hm:yA ρ res v/\ii ρ s.hp ρ h'):
  eD P E (yW P rs n0 res h') (.fin s c):=⟨hc,v,ρ,hr,hid,hsep,hm.1,hm.2⟩
theorem jB {P:Program} {f:FuncId} {fn:Func} {c:Code} (hf:P.funcs[f]? =some fn) (hname:(fn.name == "runtime.NumGoroutine")=false) (hb:fn.body=some c) {args:List AV} {h h':Hp} {res:AV}
  (H:∀ E:Entry,E.h.length=h.length->eD P E (yW P fn.results.toList h.length res h') (.go [.code c] ⟨jA fn.ntmps args,h⟩ True)):dJ P f args h res h':=by
 refine⟨⟨fn,hf,hname,by rw [hb];rfl⟩,fun β w vs hs hvs=>?_⟩
 refine calls_of_wp hf hb ?_
 let E:Entry:=⟨β,h,w⟩
 have hd:=(H E rfl).2
 refine hd β _ w ⟨rfl,oX hvs,hs,hs.len,StepR.refl β h w hs.len⟩ _ fun e s' β' a' w' hK hs'=>?_
 have key:yW P fn.results.toList h.length res h' s'->a'.defers=[]/\∃ v,(results fn a'.tmps).run P w'=.ok v w'/\∃ β'' u,Ending.returned v=.returned u/\dZ β'' res u/\HSim β'' h' w'/\StepR β β'' h h' w w':=by
  intro⟨v,ρ,hr,hid,hsep,hav,hhp⟩
  obtain⟨u,hrun,hu⟩:=uT hs'.hp hs'.sl hr
  have hw:ju ρ h.length ⟨[],h'⟩ ⟨[],s'.hp⟩:=⟨hid,hsep,trivial,hhp⟩
  have hsim:=wz (E:=E) rfl hw (β:=β') (a:=a') (w:=w') ⟨hs'.dfr,⟨fun i hi=>by simp [Slots.has] at hi,fun i x hx=>by simp [Slots.get] at hx⟩,hs'.hp,hs'.ent,hs'.st⟩
  exact⟨hs'.dfr,u,hrun,dt β' ρ,u,rfl,tq hav hu,hsim.hp,hsim.st⟩
 cases e with
 |normal=>exact key hK
 |ret=>exact key hK
 |_=>exact hK.elim
end
section
theorem BS (ρ:bu) (N o:Nat):mT ρ N o=match ρ[o]? with
  |some x=>x
  |none=>some (N+(o - ρ.length),none):=by
 unfold mT
 by_cases h:o < ρ.length
 ·rw [if_pos h,K8 h]
  unfold bu.at
  rw [KZ,K8 h]
  rfl
 rw [if_neg h,Lp zO]
attribute [go_sem] run pH uJ nT dF bc gR wj j_ dI gx S.ev S.evs S.put S.obj S.new S.val S.valc S.parts S.scals Slots.get Slots.put Sc.ofV G2 AV.ofV AV.cells Co.av td tf over Hv s_ fits J8 jq gw wi Sc.isFlat mV jA dW gU lK lL DK A2 pK fg gB jv dK cQ BS bu.at S.kill S.sets S.at Int.toNat_natCast List.length_map lN tA A6 nW BI bT yA kT G5 cM Kf J9 J_ ii Iv yB yV beq_self_eq_true
attribute [go_sem] List.map_cons List.map_nil Ls LJ List.append_nil List.take_succ_cons List.take_zero List.take_nil List.drop_succ_cons List.drop_zero List.drop_nil Lv Lw List.getD_nil List.set_cons_zero List.set_cons_succ K_ K5 List.getElem?_nil Lt LK List.getElem?_toArray List.toList_toArray Lg Option.map_none Option.bind_some Bool.and_true Bool.true_and Bool.and_self and_true true_and and_self if_true if_false LQ List.replicate_zero Lq Nat.add_zero Bool.not_true Bool.not_false beq_true beq_false Lb
theorem yX {α:Type} (l m:List α):Array.append l.toArray m.toArray=(l++m).toArray:=by simp
attribute [go_sem] yX
theorem IG:(0:Nat) / 16=0/\(0:Nat) % 16=0/\(1:Nat) / 16=0/\(1:Nat) % 16=1/\(2:Nat) / 16=0/\(2:Nat) % 16=2/\(3:Nat) / 16=0/\(3:Nat) % 16=3/\(4:Nat) / 16=0/\(4:Nat) % 16=4/\(5:Nat) / 16=0/\(5:Nat) % 16=5/\(6:Nat) / 16=0/\(6:Nat) % 16=6/\(7:Nat) / 16=0/\(7:Nat) % 16=7/\(8:Nat) / 16=0/\(8:Nat) % 16=8/\(9:Nat) / 16=0/\(9:Nat) % 16=9/\(10:Nat) / 16=0/\(10:Nat) % 16=10/\(11:Nat) / 16=0/\(11:Nat) % 16=11/\(12:Nat) / 16=0/\(12:Nat) % 16=12/\(13:Nat) / 16=0/\(13:Nat) % 16=13/\(14:Nat) / 16=0/\(14:Nat) % 16=14/\(15:Nat) / 16=0/\(15:Nat) % 16=15/\(16:Nat) / 16=1/\(16:Nat) % 16=0/\(17:Nat) / 16=1/\(17:Nat) % 16=1/\(18:Nat) / 16=1/\(18:Nat) % 16=2/\(19:Nat) / 16=1/\(19:Nat) % 16=3:=by and_intros<;>rfl
attribute [go_sem] IG
theorem HD:(20:Nat) / 16=1/\(20:Nat) % 16=4/\(21:Nat) / 16=1/\(21:Nat) % 16=5/\(22:Nat) / 16=1/\(22:Nat) % 16=6/\(23:Nat) / 16=1/\(23:Nat) % 16=7/\(24:Nat) / 16=1/\(24:Nat) % 16=8/\(25:Nat) / 16=1/\(25:Nat) % 16=9/\(26:Nat) / 16=1/\(26:Nat) % 16=10/\(27:Nat) / 16=1/\(27:Nat) % 16=11/\(28:Nat) / 16=1/\(28:Nat) % 16=12/\(29:Nat) / 16=1/\(29:Nat) % 16=13/\(30:Nat) / 16=1/\(30:Nat) % 16=14/\(31:Nat) / 16=1/\(31:Nat) % 16=15/\(32:Nat) / 16=2/\(32:Nat) % 16=0/\(33:Nat) / 16=2/\(33:Nat) % 16=1/\(34:Nat) / 16=2/\(34:Nat) % 16=2/\(35:Nat) / 16=2/\(35:Nat) % 16=3/\(36:Nat) / 16=2/\(36:Nat) % 16=4/\(37:Nat) / 16=2/\(37:Nat) % 16=5/\(38:Nat) / 16=2/\(38:Nat) % 16=6/\(39:Nat) / 16=2/\(39:Nat) % 16=7:=by and_intros<;>rfl
attribute [go_sem] HD
theorem HE:(40:Nat) / 16=2/\(40:Nat) % 16=8/\(41:Nat) / 16=2/\(41:Nat) % 16=9/\(42:Nat) / 16=2/\(42:Nat) % 16=10/\(43:Nat) / 16=2/\(43:Nat) % 16=11/\(44:Nat) / 16=2/\(44:Nat) % 16=12/\(45:Nat) / 16=2/\(45:Nat) % 16=13/\(46:Nat) / 16=2/\(46:Nat) % 16=14/\(47:Nat) / 16=2/\(47:Nat) % 16=15/\(48:Nat) / 16=3/\(48:Nat) % 16=0/\(49:Nat) / 16=3/\(49:Nat) % 16=1/\(50:Nat) / 16=3/\(50:Nat) % 16=2/\(51:Nat) / 16=3/\(51:Nat) % 16=3/\(52:Nat) / 16=3/\(52:Nat) % 16=4/\(53:Nat) / 16=3/\(53:Nat) % 16=5/\(54:Nat) / 16=3/\(54:Nat) % 16=6/\(55:Nat) / 16=3/\(55:Nat) % 16=7/\(56:Nat) / 16=3/\(56:Nat) % 16=8/\(57:Nat) / 16=3/\(57:Nat) % 16=9/\(58:Nat) / 16=3/\(58:Nat) % 16=10/\(59:Nat) / 16=3/\(59:Nat) % 16=11:=by and_intros<;>rfl
attribute [go_sem] HE
theorem F0:(60:Nat) / 16=3/\(60:Nat) % 16=12/\(61:Nat) / 16=3/\(61:Nat) % 16=13/\(62:Nat) / 16=3/\(62:Nat) % 16=14/\(63:Nat) / 16=3/\(63:Nat) % 16=15/\(64:Nat) / 16=4/\(64:Nat) % 16=0/\(65:Nat) / 16=4/\(65:Nat) % 16=1/\(66:Nat) / 16=4/\(66:Nat) % 16=2/\(67:Nat) / 16=4/\(67:Nat) % 16=3/\(68:Nat) / 16=4/\(68:Nat) % 16=4/\(69:Nat) / 16=4/\(69:Nat) % 16=5/\(70:Nat) / 16=4/\(70:Nat) % 16=6/\(71:Nat) / 16=4/\(71:Nat) % 16=7/\(72:Nat) / 16=4/\(72:Nat) % 16=8/\(73:Nat) / 16=4/\(73:Nat) % 16=9/\(74:Nat) / 16=4/\(74:Nat) % 16=10/\(75:Nat) / 16=4/\(75:Nat) % 16=11/\(76:Nat) / 16=4/\(76:Nat) % 16=12/\(77:Nat) / 16=4/\(77:Nat) % 16=13/\(78:Nat) / 16=4/\(78:Nat) % 16=14/\(79:Nat) / 16=4/\(79:Nat) % 16=15:=by and_intros<;>rfl
attribute [go_sem] F0
theorem F5:(80:Nat) / 16=5/\(80:Nat) % 16=0/\(81:Nat) / 16=5/\(81:Nat) % 16=1/\(82:Nat) / 16=5/\(82:Nat) % 16=2/\(83:Nat) / 16=5/\(83:Nat) % 16=3/\(84:Nat) / 16=5/\(84:Nat) % 16=4/\(85:Nat) / 16=5/\(85:Nat) % 16=5/\(86:Nat) / 16=5/\(86:Nat) % 16=6/\(87:Nat) / 16=5/\(87:Nat) % 16=7/\(88:Nat) / 16=5/\(88:Nat) % 16=8/\(89:Nat) / 16=5/\(89:Nat) % 16=9/\(90:Nat) / 16=5/\(90:Nat) % 16=10/\(91:Nat) / 16=5/\(91:Nat) % 16=11/\(92:Nat) / 16=5/\(92:Nat) % 16=12/\(93:Nat) / 16=5/\(93:Nat) % 16=13/\(94:Nat) / 16=5/\(94:Nat) % 16=14/\(95:Nat) / 16=5/\(95:Nat) % 16=15/\(96:Nat) / 16=6/\(96:Nat) % 16=0/\(97:Nat) / 16=6/\(97:Nat) % 16=1/\(98:Nat) / 16=6/\(98:Nat) % 16=2/\(99:Nat) / 16=6/\(99:Nat) % 16=3:=by and_intros<;>rfl
attribute [go_sem] F5
theorem F6:(100:Nat) / 16=6/\(100:Nat) % 16=4/\(101:Nat) / 16=6/\(101:Nat) % 16=5/\(102:Nat) / 16=6/\(102:Nat) % 16=6/\(103:Nat) / 16=6/\(103:Nat) % 16=7/\(104:Nat) / 16=6/\(104:Nat) % 16=8/\(105:Nat) / 16=6/\(105:Nat) % 16=9/\(106:Nat) / 16=6/\(106:Nat) % 16=10/\(107:Nat) / 16=6/\(107:Nat) % 16=11/\(108:Nat) / 16=6/\(108:Nat) % 16=12/\(109:Nat) / 16=6/\(109:Nat) % 16=13/\(110:Nat) / 16=6/\(110:Nat) % 16=14/\(111:Nat) / 16=6/\(111:Nat) % 16=15/\(112:Nat) / 16=7/\(112:Nat) % 16=0/\(113:Nat) / 16=7/\(113:Nat) % 16=1/\(114:Nat) / 16=7/\(114:Nat) % 16=2/\(115:Nat) / 16=7/\(115:Nat) % 16=3/\(116:Nat) / 16=7/\(116:Nat) % 16=4/\(117:Nat) / 16=7/\(117:Nat) % 16=5/\(118:Nat) / 16=7/\(118:Nat) % 16=6/\(119:Nat) / 16=7/\(119:Nat) % 16=7:=by and_intros<;>rfl
attribute [go_sem] F6
theorem F7:(120:Nat) / 16=7/\(120:Nat) % 16=8/\(121:Nat) / 16=7/\(121:Nat) % 16=9/\(122:Nat) / 16=7/\(122:Nat) % 16=10/\(123:Nat) / 16=7/\(123:Nat) % 16=11/\(124:Nat) / 16=7/\(124:Nat) % 16=12/\(125:Nat) / 16=7/\(125:Nat) % 16=13/\(126:Nat) / 16=7/\(126:Nat) % 16=14/\(127:Nat) / 16=7/\(127:Nat) % 16=15/\(128:Nat) / 16=8/\(128:Nat) % 16=0/\(129:Nat) / 16=8/\(129:Nat) % 16=1/\(130:Nat) / 16=8/\(130:Nat) % 16=2/\(131:Nat) / 16=8/\(131:Nat) % 16=3/\(132:Nat) / 16=8/\(132:Nat) % 16=4/\(133:Nat) / 16=8/\(133:Nat) % 16=5/\(134:Nat) / 16=8/\(134:Nat) % 16=6/\(135:Nat) / 16=8/\(135:Nat) % 16=7/\(136:Nat) / 16=8/\(136:Nat) % 16=8/\(137:Nat) / 16=8/\(137:Nat) % 16=9/\(138:Nat) / 16=8/\(138:Nat) % 16=10/\(139:Nat) / 16=8/\(139:Nat) % 16=11:=by and_intros<;>rfl
attribute [go_sem] F7
theorem F8:(140:Nat) / 16=8/\(140:Nat) % 16=12/\(141:Nat) / 16=8/\(141:Nat) % 16=13/\(142:Nat) / 16=8/\(142:Nat) % 16=14/\(143:Nat) / 16=8/\(143:Nat) % 16=15/\(144:Nat) / 16=9/\(144:Nat) % 16=0/\(145:Nat) / 16=9/\(145:Nat) % 16=1/\(146:Nat) / 16=9/\(146:Nat) % 16=2/\(147:Nat) / 16=9/\(147:Nat) % 16=3/\(148:Nat) / 16=9/\(148:Nat) % 16=4/\(149:Nat) / 16=9/\(149:Nat) % 16=5/\(150:Nat) / 16=9/\(150:Nat) % 16=6/\(151:Nat) / 16=9/\(151:Nat) % 16=7/\(152:Nat) / 16=9/\(152:Nat) % 16=8/\(153:Nat) / 16=9/\(153:Nat) % 16=9/\(154:Nat) / 16=9/\(154:Nat) % 16=10/\(155:Nat) / 16=9/\(155:Nat) % 16=11/\(156:Nat) / 16=9/\(156:Nat) % 16=12/\(157:Nat) / 16=9/\(157:Nat) % 16=13/\(158:Nat) / 16=9/\(158:Nat) % 16=14/\(159:Nat) / 16=9/\(159:Nat) % 16=15:=by and_intros<;>rfl
attribute [go_sem] F8
theorem F9:(160:Nat) / 16=10/\(160:Nat) % 16=0/\(161:Nat) / 16=10/\(161:Nat) % 16=1/\(162:Nat) / 16=10/\(162:Nat) % 16=2/\(163:Nat) / 16=10/\(163:Nat) % 16=3/\(164:Nat) / 16=10/\(164:Nat) % 16=4/\(165:Nat) / 16=10/\(165:Nat) % 16=5/\(166:Nat) / 16=10/\(166:Nat) % 16=6/\(167:Nat) / 16=10/\(167:Nat) % 16=7/\(168:Nat) / 16=10/\(168:Nat) % 16=8/\(169:Nat) / 16=10/\(169:Nat) % 16=9/\(170:Nat) / 16=10/\(170:Nat) % 16=10/\(171:Nat) / 16=10/\(171:Nat) % 16=11/\(172:Nat) / 16=10/\(172:Nat) % 16=12/\(173:Nat) / 16=10/\(173:Nat) % 16=13/\(174:Nat) / 16=10/\(174:Nat) % 16=14/\(175:Nat) / 16=10/\(175:Nat) % 16=15/\(176:Nat) / 16=11/\(176:Nat) % 16=0/\(177:Nat) / 16=11/\(177:Nat) % 16=1/\(178:Nat) / 16=11/\(178:Nat) % 16=2/\(179:Nat) / 16=11/\(179:Nat) % 16=3:=by and_intros<;>rfl
attribute [go_sem] F9
theorem F_:(180:Nat) / 16=11/\(180:Nat) % 16=4/\(181:Nat) / 16=11/\(181:Nat) % 16=5/\(182:Nat) / 16=11/\(182:Nat) % 16=6/\(183:Nat) / 16=11/\(183:Nat) % 16=7/\(184:Nat) / 16=11/\(184:Nat) % 16=8/\(185:Nat) / 16=11/\(185:Nat) % 16=9/\(186:Nat) / 16=11/\(186:Nat) % 16=10/\(187:Nat) / 16=11/\(187:Nat) % 16=11/\(188:Nat) / 16=11/\(188:Nat) % 16=12/\(189:Nat) / 16=11/\(189:Nat) % 16=13/\(190:Nat) / 16=11/\(190:Nat) % 16=14/\(191:Nat) / 16=11/\(191:Nat) % 16=15/\(192:Nat) / 16=12/\(192:Nat) % 16=0/\(193:Nat) / 16=12/\(193:Nat) % 16=1/\(194:Nat) / 16=12/\(194:Nat) % 16=2/\(195:Nat) / 16=12/\(195:Nat) % 16=3/\(196:Nat) / 16=12/\(196:Nat) % 16=4/\(197:Nat) / 16=12/\(197:Nat) % 16=5/\(198:Nat) / 16=12/\(198:Nat) % 16=6/\(199:Nat) / 16=12/\(199:Nat) % 16=7:=by and_intros<;>rfl
attribute [go_sem] F_
end
section
open Go.RowKit
def pQ (op:Op):List Tmp:=op.operands.toList.filterMap fun| .tmp t=>some t|_=>none
def dV (r:Array Oper) (o:Oper):List Tmp:=
 pQ o.op++(match o.guard with
  |some (g,_)=>((r[g]?).bind (·.dst)).toList
  |none=>[])
def f8 (P:Program) (op:Op):Nat:=
 match op with
 | .convert s d _=>match AO P s d with
  |some (.int _)|some .str=>0
  |some (.s2b _)=>2
  |some .b2s=>1
  |none=>4
 | .move _| .assign _| .pick .. | .build .. | .nilCheck _| .binOp .. | .unOp .. | .fieldAddr .. | .index .. | .extract .. =>0
 | .call ⟨.builtin .len,_,_⟩| .call ⟨.builtin .min,_,_⟩| .call ⟨.builtin .max,_,_⟩=>0
 | .load .. | .indexAddr .. | .slice .. =>1
 | .alloc _| .box .. | .buildSlice .. | .makeSlice .. =>2
 | .call ⟨.value _,_,_⟩=>3
 |_=>4
def kG (P:Program) (o:Oper):Nat:=f8 P o.op
def wC (a b:Option Tmp):Bool:=
 match a,b with
 |some x,some y=>x != y
 |_,_=>true
def nX (a:Option Tmp) (l:List Tmp):Bool:=
 match a with
 |some x=> !l.contains x
 |none=>true
def pR (P:Program) (r:Array Oper) (i j:Oper):Bool:=
 wC i.dst j.dst && nX i.dst (dV r j) && nX j.dst (dV r i) && (kG P i == 0 && kG P j != 5 || kG P i == 1 && kG P j != 4)
theorem Slots.put_comm (s:Slots) (a b:Nat) (v u:Option AV) (h:a≠b):(s.put a v).put b u=(s.put b u).put a v:=by
 unfold Slots.put
 by_cases hc:a / 16=b / 16
 ·rw [hc]
  by_cases hl:b / 16 < s.length
  ·simp only [KZ,LM hl,K2,List.set_set]
   congr 1
   exact L5 _ _ zO
  have h1:∀ x,s.set (b / 16) x=s:=fun x=>List.set_eq_of_length_le zO
  simp only [h1]
 have h1:∀ x,(s.set (a / 16) x).getD (b / 16) []=s.getD (b / 16) []:=fun x=>by
  simp only [KZ,LF hc]
 have h2:∀ x,(s.set (b / 16) x).getD (a / 16) []=s.getD (a / 16) []:=fun x=>by
  simp only [KZ,LF (Ne.symm hc)]
 rw [h1,h2]
 exact L5 _ _ hc
theorem yY (s:Slots) (d t:Nat) (v:Option AV) (h:d≠t):(s.put d v).get t=s.get t:=by
 rw [Slots.get_put,if_neg (Ne.symm h)]
def fQ (l:List Tmp) (s s':S):Prop:=∀ t∈l,s.sl.get t=s'.sl.get t
theorem eE {l:List Tmp} {s:S} {d:Option Tmp} {v:Option AV} {h:Hp} (hd:nX d l=true):fQ l s (s.put d v h):=by
 intro t ht
 cases d with
 |none=>rfl
 |some d=>
  have hne:d≠t:=fun e=>by
   subst e
   simp only [nX,Li,List.contains_eq_mem,decide_eq_false_iff_not] at hd
   exact hd ht
  exact (yY s.sl d t v hne).symm
theorem eO {s s':S} {x:Operand} (h:∀ t,x=.tmp t->s.sl.get t=s'.sl.get t):s.ev x=s'.ev x:=by
 cases x with
 |tmp t=>exact h t rfl
 |_=>rfl
theorem dx {op:Op} {t:Tmp} (h:(.tmp t:Operand)∈op.operands.toList):t∈pQ op:=by
 unfold pQ
 rw [List.mem_filterMap]
 exact⟨.tmp t,h,rfl⟩
theorem gV {s s':S}:∀ {l:List (Nat×Operand)},(∀ p∈l,s.ev p.2=s'.ev p.2)->s.parts l=s'.parts l
 |[],_=>rfl
 |(i,x)::l,h=>by
  have h1:=h (i,x) zP
  dsimp only at h1
  simp only [S.parts,h1,gV (l:=l) (fun p hp=>h p (by simp [hp]))]
theorem nY {s s':S}:∀ {l:List Operand},(∀ x∈l,s.ev x=s'.ev x)->s.scals l=s'.scals l
 |[],_=>rfl
 |x::l,h=>by
  have h1:=h x zP
  simp only [S.scals,h1,nY (l:=l) (fun p hp=>h p (by simp [hp]))]
theorem ik {s s':S}:∀ {l:List Operand},(∀ x∈l,s.ev x=s'.ev x)->s.evs l=s'.evs l
 |[],_=>rfl
 |x::l,h=>by
  have h1:=h x zP
  simp only [S.evs,h1,ik (l:=l) (fun p hp=>h p (by simp [hp]))]
theorem iL {s s':S} {x:Option Operand} (h:∀ y,x=some y->s.ev y=s'.ev y):gx s x=gx s' x:=by
 cases x with
 |none=>rfl
 |some y=>simp only [gx,h y rfl]
theorem eF {P:Program} {s s':S} {ty:TypeId} {op:Op} (hh:s.hp=s'.hp) (h:fQ (pQ op) s s'):bc P s ty op=bc P s' ty op:=by
 have ev:∀ x,x∈op.operands.toList->s.ev x=s'.ev x:=fun x hx=>eO fun t ht=>h t (dx (by rw [<-ht];exact hx))
 have ob:∀ o,s.obj o=s'.obj o:=fun o=>by unfold S.obj;rw [hh]
 have vl:∀ v,s.val v=s'.val v:=fun v=>by unfold S.val;rw [hh]
 have vc:∀ v c,s.valc v c=s'.valc v c:=fun v c=>by unfold S.valc;rw [hh]
 have nw:∀ o v,s.new o v=s'.new o v:=fun o v=>by unfold S.new;rw [hh]
 have sl:∀ v a b,dI s v a b=dI s' v a b:=fun v a b=>by
  unfold dI
  simp only [vl,vc]
 have ap:∀ t a x,j_ P s t a x=j_ P s' t a x:=fun t a x=>by
  unfold j_
  simp only [vl,ob,hh]
 cases op with
 |move x=>simp only [bc,ev x (by simp [Op.operands]),vl]
 |assign x=>simp only [bc,ev x (by simp [Op.operands]),vl]
 |pick c x y=>simp only [bc,ev c (by simp [Op.operands]),ev x (by simp [Op.operands]),ev y (by simp [Op.operands]),vl]
 |alloc e=>simp only [bc,nw,hh]
 |box e x=>simp only [bc,ev x (by simp [Op.operands]),nw,hh]
 |build t ps=>
  have:=gV (s:=s) (s':=s') (l:=ps.toList) (fun p hp=>ev p.2 (by simp only [Op.operands,L6];exact⟨p,hp,rfl⟩))
  simp only [bc,this,vl]
 |buildSlice t n ps=>
  have:=gV (s:=s) (s':=s') (l:=ps.toList) (fun p hp=>ev p.2 (by simp only [Op.operands,L6];exact⟨p,hp,rfl⟩))
  simp only [bc,this,nw,hh]
 |load t x=>simp only [bc,ev x (by simp [Op.operands]),ob,vl]
 |store t x y=>simp only [bc,ev x (by simp [Op.operands]),ev y (by simp [Op.operands]),ob,hh]
 |nilCheck x=>simp only [bc,ev x (by simp [Op.operands]),vl]
 |binOp o t x y u=>simp only [bc,ev x (by simp [Op.operands]),ev y (by simp [Op.operands]),vc]
 |unOp o t x=>simp only [bc,ev x (by simp [Op.operands]),vl]
 |convert a b x=>simp only [bc,ev x (by simp [Op.operands]),vl,vc,ob,hh]
 |makeSlice t x y=>simp only [bc,ev x (by simp [Op.operands]),ev y (by simp [Op.operands]),hh]
 |slice t x lo hi mx=>
  cases mx with
  |none=>
   have h1:=iL (s:=s) (s':=s') (x:=lo) (fun y hy=>ev y (by subst hy;simp [Op.operands]))
   have h2:=iL (s:=s) (s':=s') (x:=hi) (fun y hy=>ev y (by subst hy;simp [Op.operands]))
   simp only [bc,ev x (by simp [Op.operands]),h1,h2,ob,sl]
  |some m=>rfl
 |fieldAddr t x f=>simp only [bc,ev x (by simp [Op.operands]),vl]
 |field t x f=>simp only [bc,ev x (by simp [Op.operands]),vl]
 |indexAddr t x i=>simp only [bc,ev x (by simp [Op.operands]),ev i (by simp [Op.operands]),ob,vc]
 |index t x i=>simp only [bc,ev x (by simp [Op.operands]),ev i (by simp [Op.operands]),vc]
 |extract x i=>simp only [bc,ev x (by simp [Op.operands]),vl]
 |makeFunc f first caps=>
  cases f with
  |func f=>
   have:=nY (s:=s) (s':=s') (l:=caps.toList) (fun x hx=>ev x (by simp [Op.operands];right;simpa using hx))
   simp only [bc,this,vl]
  |_=>rfl
 |call c=>
  obtain⟨callee,args,at_⟩:=c
  cases callee with
  |builtin b=>
   have hx:∀ x,x∈args.toList->s.ev x=s'.ev x:=fun x hx=>ev x (by simp [Op.operands,Call.operands];simpa using hx)
   cases b with
   |len=>
    simp only [bc]
    split
    ·rename_i x t ha ht
     simp only [hx x (by simp [ha]),vl]
    rfl
   |append=>
    simp only [bc]
    split
    ·rename_i x y t t' ha ht
     simp only [hx x (by simp [ha]),hx y (by simp [ha]),ap]
    rfl
   |min=>
    simp only [bc]
    split
    ·rename_i x y ha
     simp only [hx x (by simp [ha]),hx y (by simp [ha]),vl]
    rfl
   |max=>
    simp only [bc]
    split
    ·rename_i x y ha
     simp only [hx x (by simp [ha]),hx y (by simp [ha]),vl]
    rfl
   |_=>rfl
  |_=>rfl
 |_=>rfl
def Hp.ext (s h:Hp):Prop:=∀ (o:Nat) (ob:AObj),s[o]? =some (some ob)->h[o]? =some (some ob)
theorem lO {s:S} {h:Hp} (hx:Hp.ext s.hp h) {o:Nat} {ob:AObj} (ho:s.obj o=some ob):S.obj ⟨s.sl,h⟩ o=some ob:=by
 have:=hx o ob (ce ho)
 unfold S.obj
 rw [KZ,this]
 rfl
theorem A7 (s:S) (h:Hp) (x:Operand):S.ev ⟨s.sl,h⟩ x=s.ev x:=by cases x<;>rfl
theorem DL (s:S) (h:Hp):∀ l,S.parts ⟨s.sl,h⟩ l=s.parts l:=fun l=>gV fun p _=>A7 s h p.2
theorem gp (s:S) (h:Hp) (x:Option Operand):gx ⟨s.sl,h⟩ x=gx s x:=iL fun y _=>A7 s h y
theorem jC {P:Program} {s:S} {ty:TypeId} {op:Op} {x:OpR} (hc:f8 P op=0) (h:bc P s ty op=some x):x.hp=s.hp/\∀ h',bc P ⟨s.sl,h'⟩ ty op=some ⟨x.v,h',x.c⟩:=by
 have e:=A7 s
 have ep:=DL s
 cases op with
 |move y|assign y=>
  simp only [bc,e] at h
  split at h
  ·rename_i v hv
   simp only [Option.some.injEq] at h
   subst h
   exact⟨rfl,fun h'=>by simp only [bc,e,ep,hv];rfl⟩
  cases h
 |pick c y z=>
  simp only [bc,e] at h
  split at h
  ·rename_i hv
   split at h
   ·rename_i v hv2
    simp only [Option.some.injEq] at h
    subst h
    exact⟨rfl,fun h'=>by simp only [bc,e,ep,hv,hv2];rfl⟩
   cases h
  ·rename_i hv
   split at h
   ·rename_i v hv2
    simp only [Option.some.injEq] at h
    subst h
    exact⟨rfl,fun h'=>by simp only [bc,e,ep,hv,hv2];rfl⟩
   cases h
  cases h
 |build t ps=>
  simp only [bc,ep] at h
  split at h
  ·rename_i z hz
   split at h
   ·rename_i l hl
    split at h
    ·rename_i cs hcs
     simp only [Option.some.injEq] at h
     subst h
     exact⟨rfl,fun h'=>by simp only [bc,e,ep,hz,hl,hcs];rfl⟩
    cases h
   cases h
  cases h
 |nilCheck y=>
  simp only [bc,e] at h
  split at h
  ·rename_i hv
   simp only [Option.some.injEq] at h
   subst h
   exact⟨rfl,fun h'=>by simp only [bc,e,ep,hv];rfl⟩
  ·rename_i hv
   simp only [Option.some.injEq] at h
   subst h
   exact⟨rfl,fun h'=>by simp only [bc,e,ep,hv];rfl⟩
  cases h
 |binOp o t y z u=>
  simp only [bc,e] at h
  split at h
  ·rename_i hy hz
   split at h
   ·rename_i q d hb
    simp only [Option.some.injEq] at h
    subst h
    exact⟨rfl,fun h'=>by simp only [bc,e,ep,hy,hz,hb];rfl⟩
   cases h
  ·rename_i hy hz
   split at h
   ·simp only [Option.some.injEq] at h
    subst h
    exact⟨rfl,fun h'=>by simp only [bc,e,ep,hy,hz];rfl⟩
   ·simp only [Option.some.injEq] at h
    subst h
    exact⟨rfl,fun h'=>by simp only [bc,e,ep,hy,hz];rfl⟩
   cases h
  cases h
 |unOp o t y=>
  simp only [bc,e] at h
  split at h
  ·rename_i hy
   split at h
   ·simp only [Option.some.injEq] at h
    subst h
    exact⟨rfl,fun h'=>by simp only [bc,e,ep,hy];rfl⟩
   cases h
  ·rename_i hy
   split at h
   ·simp only [Option.some.injEq] at h
    subst h
    exact⟨rfl,fun h'=>by simp only [bc,e,ep,hy];rfl⟩
   cases h
  cases h
 |convert a b y=>
  simp only [bc,e] at h
  split at h
  ·rename_i ht hy
   simp only [Option.some.injEq] at h
   subst h
   exact⟨rfl,fun h'=>by simp only [bc,e,ht,hy];rfl⟩
  ·rename_i ht hy
   simp only [Option.some.injEq] at h
   subst h
   exact⟨rfl,fun h'=>by simp only [bc,e,ht,hy];rfl⟩
  ·rename_i ht hy
   simp only [f8,ht] at hc
   cases hc
  ·rename_i ht hy
   simp only [f8,ht] at hc
   cases hc
  ·rename_i ht hy
   simp only [f8,ht] at hc
   cases hc
  cases h
 |fieldAddr t y f=>
  simp only [bc,e] at h
  split at h
  ·rename_i hy hf
   simp only [Option.some.injEq] at h
   subst h
   exact⟨rfl,fun h'=>by simp only [bc,e,ep,hy,hf];rfl⟩
  cases h
 |index t y i=>
  simp only [bc,e] at h
  split at h
  ·rename_i hy hi
   split at h
   ·rename_i ht
    simp only [Option.some.injEq] at h
    subst h
    exact⟨rfl,fun h'=>by simp only [bc,e,ep,hy,hi,ht];rfl⟩
   cases h
  cases h
 |extract y i=>
  simp only [bc,e] at h
  split at h
  ·rename_i hy
   split at h
   ·rename_i hl
    simp only [Option.some.injEq] at h
    subst h
    exact⟨rfl,fun h'=>by simp only [bc,e,ep,hy,hl];rfl⟩
   cases h
  cases h
 |call c=>
  obtain⟨callee,args,at_⟩:=c
  cases callee with
  |builtin b=>
   cases b with
   |len=>
    simp only [bc,e] at h
    split at h
    ·rename_i y t ha ht
     split at h
     ·rename_i hy
      split at h
      ·rename_i hs
       simp only [Option.some.injEq] at h
       subst h
       exact⟨rfl,fun h'=>by simp only [bc,e,ep,ha,ht,hy,hs];rfl⟩
      cases h
     ·rename_i hy
      split at h
      ·rename_i hs
       simp only [Option.some.injEq] at h
       subst h
       exact⟨rfl,fun h'=>by simp only [bc,e,ep,ha,ht,hy,hs];rfl⟩
      cases h
     ·rename_i hy
      split at h
      ·rename_i hs
       simp only [Option.some.injEq] at h
       subst h
       exact⟨rfl,fun h'=>by simp only [bc,e,ep,ha,ht,hy,hs];rfl⟩
      cases h
     cases h
    cases h
   |min=>
    simp only [bc,e] at h
    split at h
    ·rename_i y z ha
     split at h
     ·rename_i hy hz
      simp only [Option.some.injEq] at h
      subst h
      exact⟨rfl,fun h'=>by simp only [bc,e,ep,ha,hy,hz];rfl⟩
     cases h
    cases h
   |max=>
    simp only [bc,e] at h
    split at h
    ·rename_i y z ha
     split at h
     ·rename_i hy hz
      simp only [Option.some.injEq] at h
      subst h
      exact⟨rfl,fun h'=>by simp only [bc,e,ep,ha,hy,hz];rfl⟩
     cases h
    cases h
   |_=>cases hc
  |_=>cases hc
 |_=>cases hc
theorem pS {P:Program} {s:S} {ty:TypeId} {op:Op} {x:OpR} (hc:f8 P op=1) (h:bc P s ty op=some x):x.hp=s.hp/\∀ h',Hp.ext s.hp h'->bc P ⟨s.sl,h'⟩ ty op=some ⟨x.v,h',x.c⟩:=by
 have e:=A7 s
 cases op with
 |load t y=>
  simp only [bc,e] at h
  split at h
  ·rename_i o k j hy
   split at h
   ·rename_i ob hob
    split at h
    ·rename_i c hk
     split at h
     ·rename_i n ht
      split at h
      ·rename_i hf
       simp only [Option.some.injEq] at h
       subst h
       exact⟨rfl,fun h' hx=>by simp only [bc,e,gp s,hy,lO hx hob,hk,ht,hf];rfl⟩
      cases h
     ·rename_i ht
      split at h
      ·rename_i z hz
       simp only [Option.some.injEq] at h
       subst h
       exact⟨rfl,fun h' hx=>by simp only [bc,e,gp s,hy,lO hx hob,hk,ht,hz];rfl⟩
      cases h
     cases h
    cases h
   cases h
  cases h
 |convert a b y=>
  simp only [bc,e] at h
  split at h
  ·rename_i ht hy
   simp only [f8,ht] at hc
   cases hc
  ·rename_i ht hy
   simp only [f8,ht] at hc
   cases hc
  ·rename_i ht hy
   simp only [f8,ht] at hc
   cases hc
  ·rename_i ht hy
   split at h
   ·rename_i ob hob
    split at h
    ·rename_i hz
     simp only [Option.some.injEq] at h
     subst h
     exact⟨rfl,fun h' hx=>by simp only [bc,e,ht,hy,lO hx hob,hz,if_true];rfl⟩
    cases h
   cases h
  ·rename_i ht hy
   simp only [Option.some.injEq] at h
   subst h
   exact⟨rfl,fun h' hx=>by simp only [bc,e,ht,hy];rfl⟩
  cases h
 |indexAddr t y i=>
  simp only [bc,e] at h
  split at h
  ·rename_i hy hi ht
   split at h
   ·rename_i ob hob
    split at h
    ·rename_i hz
     simp only [Option.some.injEq] at h
     subst h
     exact⟨rfl,fun h' hx=>by simp only [bc,e,gp s,hy,hi,ht,lO hx hob,hz,if_true];rfl⟩
    cases h
   cases h
  cases h
 |slice t y lo hi mx=>
  cases mx with
  |some m=>cases h
  |none=>
   have eo:=gp s
   simp only [bc,e,eo] at h
   have sl:∀ {v:AV} {a b:Option Int} {q:OpR},dI s v a b=some q->q.hp=s.hp/\∀ h',dI ⟨s.sl,h'⟩ v a b=some ⟨q.v,h',q.c⟩:=by
    intro v a b q hq
    unfold dI at hq
    split at hq<;>first
     |(simp only [Option.some.injEq] at hq;subst hq;exact⟨rfl,fun h'=>rfl⟩)
     |cases hq
   split at h
   ·rename_i v a b hy ha hb
    split at h
    ·rename_i l
     split at h
     ·rename_i ht
      obtain⟨h1,h2⟩:=sl h
      exact⟨h1,fun h' hx=>by simp only [bc,e,gp s,hy,ha,hb,ht];exact h2 h'⟩
     cases h
    ·rename_i o off len
     split at h
     ·rename_i q sz ob ht hob
      split at h
      ·rename_i hz
       obtain⟨h1,h2⟩:=sl h
       exact⟨h1,fun h' hx=>by simp only [bc,e,gp s,hy,ha,hb,ht,lO hx hob,hz,if_true];exact h2 h'⟩
      cases h
     cases h
    cases h
   cases h
 |call c=>
  obtain⟨callee,args,at_⟩:=c
  cases callee with
  |builtin b=>cases b<;>cases hc
  |_=>cases hc
 |_=>cases hc
theorem wD (h:Hp):Hp.ext h h:=fun _ _ h=>h
theorem fq (h k:Hp):Hp.ext h (h++k):=fun o ob ho=>by
 rw [Lc (K7.1 ho).1];exact ho
theorem A8 {P:Program} {s:S} {ty:TypeId} {op:Op} {x:OpR} (h:bc P s ty op=some x) (hc:f8 P op≠4):Hp.ext s.hp x.hp:=by
 by_cases h0:f8 P op=0
 ·rw [(jC h0 h).1];exact wD _
 by_cases h1:f8 P op=1
 ·rw [(pS h1 h).1];exact wD _
 cases op with
 |alloc e=>
  simp only [bc] at h
  split at h
  ·simp only [Option.some.injEq] at h;subst h;exact fq _ _
  cases h
 |box e y=>
  simp only [bc] at h
  split at h
  ·split at h
   ·simp only [Option.some.injEq] at h;subst h;exact fq _ _
   cases h
  cases h
 |buildSlice t n ps=>
  simp only [bc] at h
  split at h
  ·split at h
   ·split at h
    ·split at h
     ·split at h
      ·simp only [Option.some.injEq] at h;subst h;exact fq _ _
      cases h
     cases h
    cases h
   cases h
  cases h
 |makeSlice t y z=>
  simp only [bc] at h
  split at h
  ·split at h
   ·split at h
    ·simp only [Option.some.injEq] at h;subst h;exact fq _ _
    cases h
   cases h
  cases h
 |convert a b y=>
  simp only [bc] at h
  split at h
  ·rename_i ht hy
   simp only [f8,ht] at h0
   exact absurd trivial h0
  ·rename_i ht hy
   simp only [f8,ht] at h0
   exact absurd trivial h0
  ·simp only [Option.some.injEq] at h;subst h;exact fq _ _
  ·rename_i ht hy
   simp only [f8,ht] at h1
   exact absurd trivial h1
  ·rename_i ht hy
   simp only [f8,ht] at h1
   exact absurd trivial h1
  cases h
 |call c=>
  obtain⟨callee,args,at_⟩:=c
  cases callee with
  |value f=>simp only [bc] at h;cases h
  |builtin b=>cases b<;>first|exact absurd rfl h0|exact absurd rfl hc
  |invoke a b=>exact absurd rfl hc
 |move _=>exact absurd rfl h0
 |assign _=>exact absurd rfl h0
 |pick _ _ _=>exact absurd rfl h0
 |build _ _=>exact absurd rfl h0
 |nilCheck _=>exact absurd rfl h0
 |binOp _ _ _ _ _=>exact absurd rfl h0
 |unOp _ _ _=>exact absurd rfl h0
 |fieldAddr _ _ _=>exact absurd rfl h0
 |index _ _ _=>exact absurd rfl h0
 |extract _ _=>exact absurd rfl h0
 |load _ _=>exact absurd rfl h1
 |indexAddr _ _ _=>exact absurd rfl h1
 |slice _ _ _ _ _=>exact absurd rfl h1
 |_=>exact absurd rfl hc
def Kg (P:Program) (o:Oper) (s s':S):Prop:=
 (∃ x,bc P s o.type o.op=some x/\x.c/\s'=s.put o.dst x.v x.hp)\/
 (∃ (y:Operand) (args:Array Operand) (at_:Array TypeId) (f:Nat) (caps:List Sc) (avs:List AV) (res:AV) (h':Hp),o.op=.call ⟨.value y,args,at_⟩/\s.ev y=some (.cl f caps)/\s.evs args.toList=some avs/\
  dJ P f (avs++jq caps) s.hp res h'/\Hp.ext s.hp h'/\s'=s.put o.dst (some res) h')
def cr (P:Program) (r:Array Oper) (i:Nat) (s s':S):Prop:=
 match r[i]? with
 |none=>s'=s
 |some o=>match dF r s o with
  |some true=>Kg P o s s'
  |some false=>s'=s.put o.dst (some (.tu [])) s.hp
  |none=>False
def uU (P:Program) (r:Array Oper):List Nat->S->S->Prop
 |[],s,s'=>s'=s
 |i::l,s,s''=>∃ s',cr P r i s s'/\uU P r l s' s''
theorem bD {r:Array Oper} {s s':S} {o:Oper} (h:fQ (dV r o) s s'):dF r s o=dF r s' o:=by
 unfold dF
 split
 ·rfl
 rename_i j want hg
 split
 ·rename_i oj hj
  split
  ·rename_i d hd
   have:=h d (by unfold dV;rw [hg];simp [hj,hd])
   rw [this]
  rfl
 rfl
theorem cR {r:Array Oper} {s s':S} {o:Oper} (h:fQ (dV r o) s s'):fQ (pQ o.op) s s':=fun t ht=>h t (by unfold dV;exact List.mem_append_left _ ht)
theorem oY (s:S) {a b:Option Tmp} (v u:Option AV) (h h':Hp) (hne:wC a b=true):(s.put a v h).put b u h'=(s.put b u h').put a v h':=by
 cases a with
 |none=>cases b<;>rfl
 |some a=>cases b with
  |none=>rfl
  |some b=>
   have:a≠b:=by simpa [wC] using hne
   simp only [S.put,Slots.put_comm s.sl a b v u this]
theorem fZ (s:S) (d:Option Tmp) (v:Option AV) (h:Hp):(s.put d v h).hp=h:=by cases d<;>rfl
theorem swap {P:Program} {r:Array Oper} {i j:Nat} {oi oj:Oper} (hi:r[i]? =some oi) (hj:r[j]? =some oj) (hind:pR P r oi oj=true) {s s1 s2:S} (h1:cr P r i s s1) (h2:cr P r j s1 s2):
  ∃ s1',cr P r j s s1'/\cr P r i s1' s2:=by
 simp only [pR,K0,La,beq_iff_eq,bne_iff_ne] at hind
 obtain⟨⟨⟨hne,hij⟩,hji⟩,hcls⟩:=hind
 have hci:kG P oi=0\/kG P oi=1:=by rcases hcls with h|h;exact .inl h.1;exact .inr h.1
 unfold cr at h1 h2
 rw [hi] at h1
 rw [hj] at h2
 dsimp only at h1 h2
 have key:∃ v,s1=s.put oi.dst v s.hp/\∀ (t:S),fQ (dV r oi) s t->(kG P oi=0\/Hp.ext s.hp t.hp)->cr P r i t (t.put oi.dst v t.hp):=by
  split at h1
  ·rename_i hg
   rcases h1 with⟨x,hx,hc,rfl⟩|⟨y,args,at_,f,caps,avs,res,h',ho,_⟩
   ·have hx2:x.hp=s.hp/\∀ t:S,fQ (dV r oi) s t->(kG P oi=0\/Hp.ext s.hp t.hp)->bc P t oi.type oi.op=some ⟨x.v,t.hp,x.c⟩:=by
     have eqv:∀ t:S,fQ (dV r oi) s t->bc P t oi.type oi.op=bc P ⟨s.sl,t.hp⟩ oi.type oi.op:=fun t ha=>(eF (s:=⟨s.sl,t.hp⟩) (s':=t) rfl (fun q hq=>cR ha q hq)).symm
     rcases hci with h0|h0
     ·obtain⟨e1,e2⟩:=jC h0 hx
      exact⟨e1,fun t ha _=>by rw [eqv t ha];exact e2 t.hp⟩
     obtain⟨e1,e2⟩:=pS h0 hx
     exact⟨e1,fun t ha he=>by rw [eqv t ha];exact e2 t.hp (he.resolve_left (by rw [h0];simp))⟩
    refine⟨x.v,by rw [hx2.1],fun t ha he=>?_⟩
    unfold cr
    rw [hi]
    dsimp only
    rw [<-bD ha,hg]
    exact .inl ⟨_,hx2.2 t ha he,hc,rfl⟩
   exfalso
   have:kG P oi=3:=by unfold kG;rw [ho];rfl
   omega
  ·rename_i hg
   refine⟨some (.tu []),h1,fun t ha _=>?_⟩
   unfold cr
   rw [hi]
   dsimp only
   rw [<-bD ha,hg]
  exact h1.elim
 obtain⟨v,rfl,hstep⟩:=key
 have hal:fQ (dV r oj) s (s.put oi.dst v s.hp):=eE hij
 have hhp:(s.put oi.dst v s.hp).hp=s.hp:=fZ _ _ _ _
 rw [<-bD hal] at h2
 have fin:∀ (u:Option AV) (h':Hp),s2=(s.put oi.dst v s.hp).put oj.dst u h'->(kG P oi=0\/Hp.ext s.hp h')->cr P r j s (s.put oj.dst u h')->∃ s1',cr P r j s s1'/\cr P r i s1' s2:=by
  intro u h' he hx hj'
  refine⟨s.put oj.dst u h',hj',?_⟩
  have h3:=hstep (s.put oj.dst u h') (eE hji) (by rw [fZ];exact hx)
  rw [fZ] at h3
  rw [he,oY s v u s.hp h' hne]
  exact h3
 split at h2
 ·rename_i hg
  rcases h2 with⟨x,hx,hc,rfl⟩|⟨y,args,at_,f,caps,avs,res,h',ho,hy,ha,hcall,hext,rfl⟩
  ·have hx':bc P s oj.type oj.op=some x:=by rw [eF (s:=s) (s':=s.put oi.dst v s.hp) hhp.symm (cR hal)];exact hx
   refine fin x.v x.hp rfl ?_ ?_
   ·rcases hcls with h0|h0
    ·exact .inl h0.1
    right
    have h4:kG P oj≠4:=h0.2
    exact A8 hx' h4
   unfold cr
   rw [hj]
   dsimp only
   rw [hg]
   exact .inl ⟨x,hx',hc,rfl⟩
  have hal':=cR hal
  rw [ho] at hal'
  have e1:s.ev y=some (.cl f caps):=by
   rw [eO (s:=s) (s':=s.put oi.dst v s.hp) (x:=y) (fun t ht=>hal' t (dx (by subst ht;simp [Op.operands,Call.operands])))]
   exact hy
  have e2:s.evs args.toList=some avs:=by
   rw [ik (s:=s) (s':=s.put oi.dst v s.hp) (l:=args.toList) (fun z hz=>eO fun t ht=>hal' t (dx (by subst ht;simp [Op.operands,Call.operands];right;simpa using hz)))]
   exact ha
  rw [hhp] at hcall hext
  refine fin (some res) h' rfl (.inr hext) ?_
  unfold cr
  rw [hj]
  dsimp only
  rw [hg]
  exact .inr ⟨y,args,at_,f,caps,avs,res,h',ho,e1,e2,hcall,hext,rfl⟩
 ·rename_i hg
  refine fin (some (.tu [])) s.hp (by rw [h2,hhp]) (.inr fun o ob h=>h) ?_
  unfold cr
  rw [hj]
  dsimp only
  rw [hg]
 exact h2.elim
def ia (P:Program) (r:Array Oper) (i j:Oper):Bool:=
 wC i.dst j.dst && nX i.dst (dV r j) && nX j.dst (dV r i) && kG P j == 0
theorem IH {P:Program} {r:Array Oper} {i j:Nat} {oi oj:Oper} (hi:r[i]? =some oi) (hj:r[j]? =some oj) (hind:ia P r oi oj=true) {s s1 s2:S} (h1:cr P r i s s1) (h2:cr P r j s1 s2):
  ∃ s1',cr P r j s s1'/\cr P r i s1' s2:=by
 simp only [ia,K0,beq_iff_eq] at hind
 obtain⟨⟨⟨hne,hij⟩,hji⟩,hcj⟩:=hind
 unfold cr at h1 h2
 rw [hi] at h1
 rw [hj] at h2
 dsimp only at h1 h2
 have key:∃ v hp,s1=s.put oi.dst v hp/\∀ (t:S),fQ (dV r oi) s t->t.hp=s.hp->cr P r i t (t.put oi.dst v hp):=by
  split at h1
  ·rename_i hg
   rcases h1 with⟨x,hx,hc,rfl⟩|⟨y,args,at_,f,caps,avs,res,h',ho,hy,ha,hcall,hext,rfl⟩
   ·refine⟨x.v,x.hp,rfl,fun t ha he=>?_⟩
    unfold cr
    rw [hi]
    dsimp only
    rw [<-bD ha,hg]
    exact .inl ⟨x,by rw [<-eF he.symm (cR ha)];exact hx,hc,rfl⟩
   refine⟨some res,h',rfl,fun t hal he=>?_⟩
   unfold cr
   rw [hi]
   dsimp only
   rw [<-bD hal,hg]
   have hal':=cR hal
   rw [ho] at hal'
   have e1:t.ev y=some (.cl f caps):=by
    rw [<-eO (s:=s) (s':=t) (x:=y) (fun q hq=>hal' q (dx (by subst hq;simp [Op.operands,Call.operands])))]
    exact hy
   have e2:t.evs args.toList=some avs:=by
    rw [<-ik (s:=s) (s':=t) (l:=args.toList) (fun z hz=>eO fun q hq=>hal' q (dx (by subst hq;simp [Op.operands,Call.operands];right;simpa using hz)))]
    exact ha
   exact .inr ⟨y,args,at_,f,caps,avs,res,h',ho,e1,e2,by rw [he];exact hcall,by rw [he];exact hext,rfl⟩
  ·rename_i hg
   refine⟨some (.tu []),s.hp,h1,fun t ha he=>?_⟩
   unfold cr
   rw [hi]
   dsimp only
   rw [<-bD ha,hg]
   dsimp only
   rw [he]
  exact h1.elim
 obtain⟨v,hp,rfl,hstep⟩:=key
 have hal:fQ (dV r oj) s (s.put oi.dst v hp):=eE hij
 rw [<-bD hal] at h2
 have fin:∀ (u:Option AV),s2=(s.put oi.dst v hp).put oj.dst u hp->cr P r j s (s.put oj.dst u s.hp)->∃ s1',cr P r j s s1'/\cr P r i s1' s2:=by
  intro u he hj'
  refine⟨s.put oj.dst u s.hp,hj',?_⟩
  have h3:=hstep (s.put oj.dst u s.hp) (eE hji) (fZ _ _ _ _)
  rw [he,oY s v u hp hp hne]
  have e:∀ (a b:S) (d:Option Tmp) (x:Option AV) (h:Hp),a.sl=b.sl->a.put d x h=b.put d x h:=by
   intro a b d x h hab
   cases d<;>simp [S.put,hab]
  rw [e (s.put oj.dst u hp) (s.put oj.dst u s.hp) oi.dst v hp (by cases oj.dst<;>rfl)]
  exact h3
 split at h2
 ·rename_i hg
  rcases h2 with⟨x,hx,hc,rfl⟩|⟨y,args,at_,f,caps,avs,res,h',ho,_⟩
  ·have hx1:bc P ⟨s.sl,hp⟩ oj.type oj.op=some x:=by
    rw [eF (s:=⟨s.sl,hp⟩) (s':=s.put oi.dst v hp) (by rw [fZ]) (fun q hq=>cR hal q hq)]
    exact hx
   obtain⟨e1,e2⟩:=jC hcj hx1
   have e3:=e2 s.hp
   refine fin x.v (by rw [e1]) ?_
   unfold cr
   rw [hj]
   dsimp only
   rw [hg]
   exact .inl ⟨_,e3,hc,rfl⟩
  exfalso
  have:kG P oj=3:=by unfold kG;rw [ho];rfl
  omega
 ·rename_i hg
  refine fin (some (.tu [])) (by rw [h2,fZ]) ?_
  unfold cr
  rw [hj]
  dsimp only
  rw [hg]
 exact h2.elim
theorem DM {P:Program} {E:Entry} {r:Array Oper} {i:Nat} {s s1:S} {β:Be} {a:Act} {w:World} {Q:Exit->Act->World->Prop} {K:Act->World->Prop} (h:cr P r i s s1) (hs:Sim E β s a w) (hK:∀ β' a' w',Sim E β' s1 a' w'->K a' w'):wpOp P r Q i K a w:=by
 unfold wpOp
 unfold cr at h
 split at h
 ·rename_i hi
  subst h
  rw [hi]
  exact hK β a w hs
 rename_i o ho
 rw [ho]
 dsimp only
 split at h
 ·rename_i hg
  rw [if_pos (iI hs.sl hg)]
  refine .inl ?_
  unfold Oper.wp
  rcases h with⟨x,hx,hc,rfl⟩|⟨y,args,at_,f,caps,avs,res,h',hop,hy,ha,⟨⟨fn,hfn,hname,hbody⟩,hcall⟩,_,rfl⟩
  ·obtain⟨β',w',hst,hh,hx'⟩:=mO hs.hp hs.sl hx hc
   rcases hx' with⟨v,av,hrun,hv,hr⟩|⟨hrun,hv⟩
   ·rw [hrun]
    rw [hv] at hK
    exact hK β' _ w' (gf hs hst hh o.dst hr)
   rw [hrun]
   rw [hv] at hK
   exact hK β' _ w' (js hs hst hh o.dst undef)
  obtain⟨cvs,hxe,hcl⟩:dZ β (.cl f caps) (a.eval y):=cy hs.sl hy
  have hav:=AZ hs.sl ha
  have hvs:L2 (dZ β) (avs++jq caps) (args.toList.map a.eval++cvs):=hav.append (oU hcl)
  have hrun:(execOp a.eval o).run P w=.ok (.enter f (args.toList.map a.eval++cvs).toArray) w:=by
   unfold execOp
   rw [hop]
   have e1:args.map a.eval=(args.toList.map a.eval).toArray:=by apply Array.ext';simp
   have hname':¬ fn.name= "runtime.NumGoroutine":=by simpa using hname
   simp only [resolve,hxe,Deferred.ofValue,invoke,callFunc,Lx,run_program,LS,LA,hfn,e1]
   simp [hname',hbody]
  rw [hrun,Oper.upon_enter]
  refine (hcall β w _ hs.hp hvs).mono fun e w' ⟨β',v,he,hr,hh,hst⟩=>?_
  subst he
  exact hK β' _ w' (gf hs hst hh o.dst hr)
 ·rename_i hg
  rw [iI hs.sl hg]
  subst h
  exact hK β _ w (gf hs (StepR.refl β s.hp w hs.hp.len) hs.hp o.dst ⟨[],rfl,trivial⟩)
 exact h.elim
def DN (T:List Nat) (o:Oper):Nat:=o.after.toList.foldl (fun m e=>if Region.binds .any e then m |||(1 <<< e.on) |||T.getD e.on 0 else m) 0
def sG:List Oper->List Nat->List Nat
 |[],T=>T
 |o::l,T=>sG l (T++[DN T o])
def yZ (r:Array Oper):List Nat:=sG r.toList []
def kH (r:Array Oper):Bool:=(List.range r.size).all fun i=>match r[i]? with
 |some o=>o.after.toList.all fun e=> !Region.binds .any e || decide (e.on < i)
 |none=>true
theorem wE (T:List Nat) (p:Nat):∀ (l:List Edge) (m:Nat),(l.foldl (fun m e=>if Region.binds .any e then m |||(1 <<< e.on) |||T.getD e.on 0 else m) m).testBit p=true↔
  m.testBit p=true\/∃ e∈l,Region.binds .any e=true/\(e.on=p\/(T.getD e.on 0).testBit p=true)
 |[],m=>by simp
 |e::l,m=>by
  rw [List.foldl_cons,wE T p l]
  cases hb:Region.binds .any e
  ·simp [hb]
  simp only [if_true,Nat.testBit_or,La,Nat.one_shiftLeft,Nat.testBit_two_pow,decide_eq_true_eq,Lb,exists_eq_or_imp,hb,true_and]
  constructor
  ·rintro (((h|h)|h)|h)
   ·exact .inl h
   ·exact .inr (.inl (.inl h))
   ·exact .inr (.inl (.inr h))
   exact .inr (.inr h)
  rintro (h|(h|h)|h)
  ·exact .inl (.inl (.inl h))
  ·exact .inl (.inl (.inr h))
  ·exact .inl (.inr h)
  exact .inr h
theorem pT:∀ (l:List Oper) (T:List Nat) (i:Nat),i < T.length->(sG l T)[i]? =T[i]?
 |[],T,i,_=>rfl
 |o::l,T,i,h=>by
  rw [sG,pT l _ i zS,Lc h]
theorem wF:∀ (l:List Oper) (T:List Nat) (j:Nat) (o:Oper),l[j]? =some o->∃ T',(sG l T)[T.length+j]? =some (DN T' o)/\T'.length=T.length+j/\∀ k,k < T.length+j->T'[k]? =(sG l T)[k]?
 |[],T,j,o,h=>by simp at h
 |o'::l,T,0,o,h=>by
  simp at h
  subst h
  refine⟨T,?_,zP,fun k hk=>?_⟩
  ·rw [sG,pT l _ _ zP]
   simp
  rw [sG,pT l _ _ zS,Lc zO]
 |o'::l,T,j+1,o,h=>by
  obtain⟨T',h1,h2,h3⟩:=wF l (T++[DN T o']) j o (by simpa using h)
  simp only [Ll,Lt,LK] at h1 h2 h3
  refine⟨T',?_,zO,fun k hk=>?_⟩
  ·rw [sG,show T.length+(j+1)=T.length+(0+1)+j from by omega];exact h1
  rw [sG];exact h3 k zO
theorem pU {r:Array Oper} {i:Nat} {o:Oper} (ho:r[i]? =some o) (p:Nat):((yZ r).getD i 0).testBit p=true↔∃ e∈o.after.toList,Region.binds .any e=true/\(e.on=p\/(e.on < i/\((yZ r).getD e.on 0).testBit p=true)):=by
 obtain⟨T',h1,h2,h3⟩:=wF r.toList [] i o (by simpa using ho)
 simp only [LK,Lq] at h1 h2 h3
 have e1:(yZ r).getD i 0=DN T' o:=by unfold yZ;rw [KZ,h1];rfl
 rw [e1]
 unfold DN
 rw [wE]
 simp only [Nat.zero_testBit,Bool.false_eq_true,false_or]
 constructor
 ·rintro⟨e,he,hb,h⟩
  refine⟨e,he,hb,h.imp id fun h=>?_⟩
  rcases Ld e.on i with hlt|hge
  ·refine⟨hlt,?_⟩
   rw [KZ,h3 _ hlt] at h
   rw [KZ]
   exact h
  rw [KZ,Lp zO] at h
  simp at h
 rintro⟨e,he,hb,h⟩
 refine⟨e,he,hb,h.imp id fun⟨hlt,h⟩=>?_⟩
 rw [KZ,h3 _ hlt]
 rw [KZ] at h
 exact h
def y0 (r:Array Oper) (listed:Array Bool):Prop:=∀ (i:Nat) (o:Oper),r[i]? =some o->listed.getD i false=true->∀ e∈o.after.toList,Region.binds .any e=true->listed.getD e.on false=true
theorem pV {r:Array Oper} {listed:Array Bool} (hc:y0 r listed):∀ (i:Nat) (o:Oper),r[i]? =some o->(∀ e∈o.after.toList,Region.binds .any e=true->listed.getD e.on false=true)->∀ p,((yZ r).getD i 0).testBit p=true->listed.getD p false=true:=by
 intro i
 induction i using Nat.strongRecOn with
 |_ i ih=>
  intro o ho ha p hp
  obtain⟨e,he,hb,h⟩:=(pU ho p).1 hp
  rcases h with rfl|⟨hlt,h⟩
  ·exact ha e he hb
  have hl:=ha e he hb
  cases hr:r[e.on]? with
  |none=>
   exfalso
   have hn:(yZ r)[e.on]? =none:=by
    rw [Array.getElem?_eq_none_iff] at hr
    have hlt2:=(K9.1 ho).1
    omega
   rw [KZ,hn] at h
   simp at h
  |some oj=>exact ih e.on hlt oj hr (hc e.on oj hr hl) p h
def aQ:List Nat->Nat->Nat->Bool
 |[],p,q=>decide (p < q)
 |i::l,p,q=>if i=p then true else if i=q then false else aQ l p q
theorem gg {p q:Nat} (hne:p≠q):∀ {l:List Nat},aQ l p q=true\/aQ l q p=true
 |[]=>by simp only [aQ,decide_eq_true_eq];omega
 |i::l=>by
  simp only [aQ]
  by_cases h1:i=p
  ·exact .inl (by rw [if_pos h1])
  by_cases h2:i=q
  ·exact .inr (by rw [if_pos h2])
  rw [if_neg h1,if_neg h2,if_neg h2,if_neg h1]
  exact gg hne
def HG (P:Program) (r:Array Oper) (T:List Nat) (ex:List (Nat×Nat)) (p q:Nat):Bool:=
 p != q && !(T.getD p 0).testBit q &&
 ((T.getD q 0).testBit p || ex.contains (p,q) || match r[p]?,r[q]? with
  |some x,some y=>pR P r x y || ia P r x y
  |_,_=>false)
def yC (P:Program) (r:Array Oper) (T:List Nat) (ex:List (Nat×Nat)):List Nat->Bool
 |[]=>true
 |p::l=>l.all (HG P r T ex p) && yC P r T ex l
theorem wG {P:Program} {r:Array Oper} {T:List Nat} {ex:List (Nat×Nat)} {i:Nat}:∀ {l m:List Nat},yC P r T ex (l++i::m)=true->yC P r T ex (l++m)=true
 |[],m,h=>by simp only [LJ,yC,K0] at h⊢;exact h.2
 |p::l,m,h=>by
  simp only [Ls,yC,K0,K3] at h⊢
  refine⟨fun q hq=>h.1 q ?_,wG h.2⟩
  simp only [Lh,Lb] at hq⊢
  exact hq.imp id .inr
theorem DO {P:Program} {r:Array Oper} {T:List Nat} {ex:List (Nat×Nat)} {i p:Nat}:∀ {l m:List Nat},yC P r T ex (l++i::m)=true->p∈l->HG P r T ex p i=true
 |[],m,_,h=>by simp at h
 |q::l,m,h,hp=>by
  simp only [Ls,yC,K0,K3] at h
  rcases Lb.1 hp with rfl|hp
  ·exact h.1 i zP
  exact DO h.2 hp
theorem wH {P:Program} {r:Array Oper} {T:List Nat} {ex:List (Nat×Nat)} {i p:Nat} {l:List Nat} (h:yC P r T ex (i::l)=true) (hp:p∈l):HG P r T ex i p=true:=by
 simp only [yC,K0,K3] at h
 exact h.1 p hp
theorem tB {P:Program} {r:Array Oper} {T:List Nat} {ex:List (Nat×Nat)}:∀ {l:List Nat},yC P r T ex l=true->l.Nodup
 |[],_=>L4
 |p::l,h=>by
  refine Lm.2 ⟨fun hp=>?_,tB (by simp only [yC,K0] at h;exact h.2)⟩
  have:=wH h hp
  simp [HG] at this
theorem tC {P:Program} {r:Array Oper} {i:Nat}:∀ {l m:List Nat} {s s':S},(∀ p∈l,∃ x y,r[p]? =some x/\r[i]? =some y/\(pR P r x y || ia P r x y)=true)->uU P r (l++i::m) s s'->uU P r (i::(l++m)) s s'
 |[],m,s,s',_,h=>h
 |p::l,m,s,s',hl,h=>by
  obtain⟨s1,h1,h2⟩:=h
  obtain⟨s2,h3,h4⟩:=tC (fun q hq=>hl q (LP _ hq)) h2
  obtain⟨x,y,hx,hy,hind⟩:=hl p zP
  rcases (La _ _).mp hind with hind|hind
  ·obtain⟨s1',h5,h6⟩:=swap hx hy hind h1 h3
   exact⟨s1',h5,s2,h6,h4⟩
  obtain⟨s1',h5,h6⟩:=IH hx hy hind h1 h3
  exact⟨s1',h5,s2,h6,h4⟩
def nZ (r:Array Oper):Nat->Array Bool->List Nat->Prop
 |fuel,listed,[]=>fuel=0\/Region.ready .any r listed=[]
 |0,_,_::_=>False
 |fuel+1,listed,i::τ=>i∈Region.ready .any r listed/\nZ r fuel (listed.setIfInBounds i true) τ
theorem il {r:Array Oper}:∀ (fuel t:Nat) (listed:Array Bool),nZ r fuel listed (Region.linearise.go .any r fuel t listed [])
 |0,t,listed=>by simp [Region.linearise.go,nZ]
 |fuel+1,t,listed=>by
  simp only [Region.linearise.go]
  change nZ r (fuel+1) listed (match (Region.ready .any r listed)[t % (Region.ready .any r listed).length]? with
   |some i=>Region.linearise.go .any r fuel (t / (Region.ready .any r listed).length) (listed.setIfInBounds i true) [i]
   |none=>[].reverse)
  cases hi:(Region.ready .any r listed)[t % (Region.ready .any r listed).length]? with
  |none=>
   have hnil:Region.ready .any r listed=[]:=by
    cases hr:Region.ready .any r listed with
    |nil=>rfl
    |cons x xs=>
     rw [hr] at hi
     have hlt:t % (x::xs).length < (x::xs).length:=Nat.mod_lt _ zP
     simp at hi
     simp at hlt
     omega
   exact .inr hnil
  |some i=>
   simp only []
   rw [linearise_go_acc,List.reverse_singleton,List.singleton_append]
   exact⟨K6 hi,il fuel _ _⟩
theorem im {r:Array Oper} {listed:Array Bool} {i:Nat}:i∈Region.ready .any r listed↔∃ o,r[i]? =some o/\listed.getD i true=false/\∀ e∈o.after.toList,Region.binds .any e=true->listed.getD e.on false=true:=by
 unfold Region.ready
 simp only [List.mem_filter,Lz,K0,Li]
 constructor
 ·rintro⟨hlt,h1,h2⟩
  refine⟨r[i],K4 hlt,h1,fun e he hb=>?_⟩
  rw [K4 hlt] at h2
  simp only [Lg,K2,LD,La,Li] at h2
  rcases h2 e (by simpa using he) with h|h
  ·rw [hb] at h;cases h
  exact h
 rintro⟨o,ho,h1,h2⟩
 refine⟨(K9.1 ho).1,h1,?_⟩
 rw [ho]
 simp only [Lg,K2,LD,La,Li]
 intro e he
 cases hb:Region.binds .any e with
 |false=>exact .inl rfl
 |true=>exact .inr (h2 e (by simpa using he) hb)
theorem pW {l:Array Bool} {i j:Nat} {d:Bool} (hi:i < l.size):(l.setIfInBounds i true).getD j d=if i=j then true else l.getD j d:=by
 simp only [K1,Array.getElem?_setIfInBounds]
 by_cases h:i=j
 ·subst h;simp [hi]
 simp [h]
theorem oZ {r:Array Oper} (h:kH r=true) {i:Nat} {o:Oper} (ho:r[i]? =some o) {e:Edge} (he:e∈o.after.toList) (hb:Region.binds .any e=true):e.on < i:=by
 unfold kH at h
 rw [K3] at h
 have:=h i (Lz.2 (K9.1 ho).1)
 rw [ho] at this
 have:=(K3.1 this) e he
 rw [hb] at this
 simpa using this
theorem tD {r:Array Oper} {fuel:Nat} {listed:Array Bool} (h:nZ r fuel listed []):fuel=0\/Region.ready .any r listed=[]:=by
 cases fuel<;>exact h
theorem iM {P:Program} {E:Entry} {r:Array Oper} {Q:Exit->Act->World->Prop} {ex:List (Nat×Nat)} {s':S} (hback:kH r=true) (hQ:∀ β' a' w',Sim E β' s' a' w'->Q .normal a' w'):
  ∀ (τ:List Nat) (fuel:Nat) (listed:Array Bool) (σ:List Nat) (s:S) (β:Be) (a:Act) (w:World),nZ r fuel listed τ->listed.size=r.size->σ.length<=fuel->(∀ i,i∈σ↔i < r.size/\listed.getD i true=false)->y0 r listed->
   yC P r (yZ r) ex σ=true->(∀ p q,ex.contains (p,q)=true->p∈σ->q∈σ->aQ τ p q=true)->uU P r σ s s'->Sim E β s a w->wpOps P r Q τ a w
 |[],fuel,listed,σ,s,β,a,w,hd,hsz,hf,hm,hc,hok,hx,hrun,hs=>by
  have hnil:σ=[]:=by
   rcases tD hd with rfl|hd
   ·exact LI.1 zO
   cases σ with
   |nil=>rfl
   |cons p l=>
    exfalso
    have hp:=(hm p).1 zP
    have:p∈Region.ready .any r listed:=by
     refine im.2 ⟨r[p],K4 hp.1,hp.2,fun e he hb=>?_⟩
     have hbit:((yZ r).getD p 0).testBit e.on=true:=(pU (K4 hp.1) e.on).2 ⟨e,he,hb,.inl rfl⟩
     have hlt0:=oZ hback (K4 hp.1) he hb
     have hlt:e.on < r.size:=L7 hlt0 hp.1
     cases hl:listed.getD e.on false with
     |true=>rfl
     |false=>
      exfalso
      have hl':listed.getD e.on true=false:=by
       rw [K1,K4 zO] at hl⊢
       exact hl
      have hmem:e.on∈p::l:=(hm e.on).2 ⟨hlt,hl'⟩
      rcases Lb.1 hmem with hep|hmem
      ·omega
      have:=wH hok hmem
      simp only [HG,K0,Li] at this
      rw [this.1.2] at hbit
      cases hbit
    rw [hd] at this
    simp at this
  subst hnil
  have:s'=s:=hrun
  subst this
  exact hQ β a w hs
 |i::τ,0,listed,σ,s,β,a,w,hd,_,_,_,_,_,_,_,_=>hd.elim
 |i::τ,fuel+1,listed,σ,s,β,a,w,hd,hsz,hf,hm,hc,hok,hx,hrun,hs=>by
  obtain⟨hi,hd⟩:=hd
  obtain⟨o,ho,h1,h2⟩:=im.1 hi
  have hil:i < r.size:=(K9.1 ho).1
  have hiσ:i∈σ:=(hm i).2 ⟨hil,h1⟩
  obtain⟨l,m,rfl⟩:=LU hiσ
  have hnd:=tB hok
  have hfront:∀ p∈l,∃ x y,r[p]? =some x/\r[i]? =some y/\(pR P r x y || ia P r x y)=true:=by
   intro p hp
   have hpl:=(hm p).1 (by simp [hp])
   have h3:=DO hok hp
   have hpi:p≠i:=by
    intro e
    subst e
    simp [HG] at h3
   simp only [HG,K0,La] at h3
   rcases h3.2 with (h4|h4)|h4
   ·exfalso
    have:=pV hc i o ho h2 p h4
    have h5:=hpl.2
    rw [K1,K4 zO] at this h5
    simp only [K2] at this h5
    rw [this] at h5
    cases h5
   ·exfalso
    have:=hx p i h4 (by simp [hp]) zP
    simp [aQ,hpi,Ne.symm hpi] at this
   split at h4
   ·rename_i x y hx hy
    exact⟨x,y,hx,hy,h4⟩
   cases h4
  obtain⟨s1,h3,h4⟩:=tC hfront hrun
  have hset:∀ (j:Nat) (d:Bool),(listed.setIfInBounds i true).getD j d=if i=j then true else listed.getD j d:=fun j d=>pW zO
  rw [wpOps_cons]
  refine DM h3 hs fun β' a' w' hs'=>?_
  refine iM hback hQ τ fuel (listed.setIfInBounds i true) (l++m) s1 β' a' w' hd (by simpa using hsz) ?_ ?_ ?_ (wG hok) ?_ h4 hs'
  ·simp only [Ll,Lt] at hf⊢
   omega
  ·intro j
   have hj:=hm j
   rw [hset]
   have hd1:i ∉ l/\i ∉ m:=by
    rw [LB] at hnd
    exact⟨fun h=>hnd.2.2 i h i zP rfl,(Lm.1 hnd.2.1).1⟩
   simp only [Lh,Lb] at hj⊢
   by_cases hij:i=j
   ·subst hij
    simp [hd1.1,hd1.2]
   rw [if_neg hij,<-hj]
   simp [Ne.symm hij]
  ·intro j oj hj hl e he hb
   rw [hset] at hl⊢
   by_cases hij:i=j
   ·subst hij
    rw [hj] at ho
    cases ho
    split
    ·rfl
    exact h2 e he hb
   rw [if_neg hij] at hl
   split
   ·rfl
   exact hc j oj hj hl e he hb
  intro p q hpq hp hq
  have hd1:i ∉ l/\i ∉ m:=by
   rw [LB] at hnd
   exact⟨fun h=>hnd.2.2 i h i zP rfl,(Lm.1 hnd.2.1).1⟩
  have hne:∀ x∈l++m,i≠x:=by
   intro x hx e
   subst e
   exact (Lh.1 hx).elim hd1.1 hd1.2
  have hin:∀ x∈l++m,x∈l++i::m:=by
   intro x hx
   simp only [Lh,Lb] at hx⊢
   exact hx.imp id .inr
  have:=hx p q hpq (hin p hp) (hin q hq)
  simpa [aQ,hne p hp,hne q hq] using this
def kc:List (Nat×Nat)->List (List (Nat×Nat))
 |[]=>[[]]
 |(a,b)::U=>(kc U).flatMap fun l=>[(a,b)::l,(b,a)::l]
theorem kd (τ:List Nat):∀ {U:List (Nat×Nat)},(∀ u∈U,u.1≠u.2)->∃ ex∈kc U,∀ p q,ex.contains (p,q)=true->aQ τ p q=true
 |[],_=>⟨[],by simp [kc],fun p q h=>by simp at h⟩
 |(a,b)::U,h=>by
  obtain⟨ex,h1,h2⟩:=kd τ (U:=U) fun u hu=>h u (by simp [hu])
  have hne:a≠b:=h (a,b) zP
  rcases gg hne (l:=τ) with h3|h3
  ·refine⟨(a,b)::ex,L3.2 ⟨ex,h1,zP⟩,fun p q hpq=>?_⟩
   simp only [LW,La,beq_iff_eq,Prod.mk.injEq] at hpq
   rcases hpq with⟨rfl,rfl⟩|hpq
   ·exact h3
   exact h2 p q hpq
  refine⟨(b,a)::ex,L3.2 ⟨ex,h1,zP⟩,fun p q hpq=>?_⟩
  simp only [LW,La,beq_iff_eq,Prod.mk.injEq] at hpq
  rcases hpq with⟨rfl,rfl⟩|hpq
  ·exact h3
  exact h2 p q hpq
def pX (P:Program) (r:Array Oper) (U:List (Nat×Nat)) (os:List (List Nat)):Bool:=
 kH r && U.all (fun u=>u.1 != u.2) && os.all (fun σ=>σ.length == r.size && (List.range r.size).all σ.contains && σ.all fun i=>decide (i < r.size)) &&
 (let T:=yZ r;(kc U).all fun ex=>os.any fun σ=>yC P r T ex σ)
theorem DP {P:Program} {E:Entry} {id:Nat} {r:Array Oper} {U:List (Nat×Nat)} {os:List (List Nat)} (hP:P.follows .mixedOrders=true) (hcov:pX P r U os=true) {s:S} {K:S->Prop}
  (h:∀ σ∈os,∃ s',uU P r σ s s'/\∀ β a w,Sim E β s' a w->∃ β' t,K t/\Sim E β' t a w):mP P E (.region id r true) s fun e s'=>e=.normal/\K s':=by
 intro β a w hs Q hQ
 refine wp_region_draw fun t=>?_
 simp only [Region.schedule,hP,LX,if_true]
 simp only [pX,K0] at hcov
 obtain⟨⟨⟨hback,hU⟩,hperm⟩,hch⟩:=hcov
 have hd:=il (r:=r) r.size t (Array.replicate r.size false)
 obtain⟨ex,hex,hbef⟩:=kd (Region.linearise .any r t) (U:=U) fun u hu=>by
  have:=K3.1 hU u hu
  simpa using this
 obtain⟨σ,hσ,hok⟩:=Lf.1 (K3.1 hch ex hex)
 have hp:=K3.1 hperm σ hσ
 simp only [K0,beq_iff_eq,K3,Lz,decide_eq_true_eq] at hp
 obtain⟨⟨hlen,hall⟩,hlt⟩:=hp
 obtain⟨s',hrun,hK⟩:=h σ hσ
 have hs2:Sim E β s a { w with drawn:=w.drawn+1 }:=⟨hs.dfr,hs.sl,⟨hs.hp.len,hs.hp.ob,hs.hp.flat,hs.hp.apart⟩,hs.ent,⟨hs.st.le,hs.st.os,hs.st.tape,hs.st.output,hs.st.size,hs.st.block,hs.st.len,hs.st.old,hs.st.fresh⟩⟩
 refine iM hback (fun β' a' w' hs'=>let⟨β2,t2,hk2,hs2⟩:=hK β' a' w' hs';hQ .normal t2 β2 a' w' ⟨rfl,hk2⟩ hs2) (Region.linearise .any r t) r.size _ σ s β a _ hd zP zO (fun i=>?_) (fun i o ho hl=>?_) hok (fun p q hpq _ _=>hbef p q hpq) hrun hs2
 ·constructor
  ·intro hi
   refine⟨hlt i hi,?_⟩
   simp [K1,hlt i hi]
  rintro⟨hi,_⟩
  simpa using hall i hi
 exfalso
 simp only [K1,Ly] at hl
 split at hl<;>cases hl
inductive G7 where
 |go (l:List Nat) (s:S) (c:Prop)
 |call (f:Nat) (args:List AV) (d:Option Tmp) (l:List Nat) (s:S) (c:Prop)
 |fin (s:S) (c:Prop)
 |bad
def o_ (P:Program) (o:Oper) (l:List Nat) (s:S) (c:Prop):G7:=
 match o.op with
 | .call ⟨.value x,args,_⟩=>match s.ev x,s.evs args.toList with
  |some (.cl f caps),some avs=>.call f (avs++jq caps) o.dst l s c
  |_,_=>.bad
 |op=>match bc P s o.type op with
  |some ⟨v,h,d⟩=>.go l (s.put o.dst v h) (c/\d)
  |none=>.bad
def tE (P:Program) (r:Array Oper):List Nat->S->Prop->G7
 |[],s,c=>.fin s c
 |i::l,s,c=>match r[i]? with
  |some o=>match dF r s o with
   |some b=>match b with
    |true=>o_ P o l s c
    |false=>.go l (s.put o.dst (some (.tu [])) s.hp) c
   |none=>.bad
  |none=>.bad
def BT (P:Program) (r:Array Oper):Nat->G7->G7
 |0,x=>x
 |n+1,.go l s c=>BT P r n (tE P r l s c)
 |_+1,.call f a d l s c=>.call f a d l s c
 |_+1,.fin s c=>.fin s c
 |_+1,.bad=>.bad
def mX (P:Program) (r:Array Oper) (G:S->Prop):G7->Prop
 | .go l s c=>c/\∃ s',uU P r l s s'/\G s'
 | .call f args d l s c=>c/\∃ res h',dJ P f args s.hp res h'/\Hp.ext s.hp h'/\∃ s',uU P r l (s.put d (some res) h') s'/\G s'
 | .fin s c=>c/\G s
 | .bad=>False
theorem BU {P:Program} {r:Array Oper} {G:S->Prop} {l:List Nat} {s:S} {c:Prop} (h:mX P r G (tE P r l s c)):mX P r G (.go l s c):=by
 cases l with
 |nil=>exact⟨h.1,s,rfl,h.2⟩
 |cons i l=>
  simp only [tE] at h
  split at h
  ·rename_i o ho
   split at h
   ·rename_i b hg
    cases b with
    |true=>
     unfold o_ at h
     dsimp only at h
     split at h
     ·rename_i x args at_ hop
      split at h
      ·rename_i f caps avs hx ha
       obtain⟨hc,res,h',hcall,hext,s',hrun,hG⟩:=h
       refine⟨hc,s',⟨_,?_,hrun⟩,hG⟩
       unfold cr
       rw [ho]
       dsimp only
       rw [hg]
       exact .inr ⟨x,args,at_,f,caps,avs,res,h',hop,hx,ha,hcall,hext,rfl⟩
      exact h.elim
     split at h
     ·rename_i v hp d hx
      obtain⟨⟨hc,hd⟩,s',hrun,hG⟩:=h
      refine⟨hc,s',⟨_,?_,hrun⟩,hG⟩
      unfold cr
      rw [ho]
      dsimp only
      rw [hg]
      exact .inl ⟨_,hx,hd,rfl⟩
     exact h.elim
    |false=>
     obtain⟨hc,s',hrun,hG⟩:=h
     refine⟨hc,s',⟨_,?_,hrun⟩,hG⟩
     unfold cr
     rw [ho]
     dsimp only
     rw [hg]
   exact h.elim
  exact h.elim
theorem aa {P:Program} {r:Array Oper} {G:S->Prop}:∀ (n:Nat) {x:G7},mX P r G (BT P r n x)->mX P r G x
 |0,x,h=>h
 |n+1,.go l s c,h=>BU (aa n h)
 |n+1,.call ..,h=>h
 |n+1,.fin ..,h=>h
 |n+1,.bad,h=>h
def n6:Hp->Bool
 |[]=>true
 |some ob::h=> !ob.own && n6 h
 |none::h=>n6 h
theorem mY:∀ {h:Hp} {i:Nat} {t:AObj},n6 h=true->h[i]? =some (some t)->t.own=false
 |[],i,t,_,h=>by simp at h
 |some ob::l,0,t,hn,h=>by
  simp at h
  subst h
  simp [n6] at hn
  exact hn.1
 |none::l,0,t,hn,h=>by simp at h
 |some ob::l,i+1,t,hn,h=>mY (h:=l) (by simp [n6] at hn;exact hn.2) (by simpa using h)
 |none::l,i+1,t,hn,h=>mY (h:=l) (by simpa [n6] using hn) (by simpa using h)
theorem kg {P:Program} {r:Array Oper} {G:S->Prop} {f:Nat} {avs:List AV} {d:Option Tmp} {l:List Nat} {s:S} {c:Prop} {args0:List AV} {h0 h0':Hp} {res0:AV} (hc:c) (ct:dJ P f args0 h0 res0 h0') (ρ:bu)
  (hm:kT ρ args0 avs/\ii ρ s.hp ρ h0) (hsep:cG ρ h0=true) (hno:n6 h0=true) (h:mX P r G (.go l (s.put d (some (gU ρ s.hp.length res0)) (s.hp++gB ρ s.hp.length (h0'.drop h0.length))) True)):mX P r G (.call f avs d l s c):=by
 have hu:∀ (ρ':bu) (h h' s':Hp),(∀ (i:Nat) (t:AObj),h[i]? =some (some t)->t.own=false)->dK ρ s.hp.length ρ' h h' s'=s':=by
  intro ρ'
  induction ρ' with
  |nil=>intro h h' s' _;simp [dK]
  |cons x ρ' ih=>
   intro h h' s' hn
   cases h with
   |nil=>cases x<;>simp [dK]
   |cons y h=>
    have hn':∀ (i:Nat) (t:AObj),h[i]? =some (some t)->t.own=false:=fun i t ht=>hn (i+1) t (by simpa using ht)
    cases h' with
    |nil=>cases x<;>cases y<;>simp [dK]
    |cons z h'=>
     cases x with
     |none=>cases y<;>simpa [dK] using ih h h' s' hn'
     |some x=>
      cases y with
      |none=>simpa [dK] using ih h h' s' hn'
      |some y=>
       obtain⟨n,e⟩:=x
       have ho:=hn 0 y zP
       simpa [dK,ho] using ih h h' s' hn'
 have hcall:cQ ρ h0 h0' s.hp=s.hp++gB ρ s.hp.length (h0'.drop h0.length):=by
  unfold cQ
  rw [hu ρ h0 h0' s.hp fun i t ht=>mY hno ht]
 obtain⟨_,s',hrun,hG⟩:=h
 refine⟨hc,_,_,pO ct ρ hm.1 hm.2 hsep,?_,s',by rw [hcall];exact hrun,hG⟩
 rw [hcall]
 exact fq _ _
def aR (f:List Nat->Prop):List (List Nat)->Prop
 |[]=>True
 |[σ]=>f σ
 |σ::l=>f σ/\aR f l
theorem gq {f:List Nat->Prop}:∀ {l:List (List Nat)},aR f l->∀ σ∈l,f σ
 |[σ],h,_,hm=>by simp at hm;subst hm;exact h
 |σ::τ::l,h,x,hm=>by
  rcases Lb.1 hm with rfl|hm
  ·exact h.1
  exact gq h.2 x hm
theorem DQ {P:Program} {E:Entry} {F:S->Prop} {id:Nat} {r:Array Oper} {k:List dP} {s:S} {c:Prop} (U:List (Nat×Nat)) (os:List (List Nat)) (hP:P.follows .mixedOrders=true) (hc:c) (hcov:pX P r U os=true)
  (h:aR (fun σ=>mX P r (fun s'=>eD P E F (.go k s' True)) (.go σ s True)) os):eD P E F (.draw id r k s c):=by
 refine⟨hc,d9 (DP hP hcov (K:=fun s'=>eD P E F (.go k s' True)) fun σ hσ=>let⟨s',h1,h2⟩:=(gq h σ hσ).2;⟨s',h1,fun β a w hs=>⟨β,s',h2,hs⟩⟩) fun e s' hk=>?_⟩
 obtain⟨rfl,hk⟩:=hk
 exact hk.2
theorem kh {P:Program} {E:Entry} {F:S->Prop} {id:Nat} {r:Array Oper} {k:List dP} {s:S} {c:Prop} (σ:List Nat) (hP:P.follows .mixedOrders=true) (hc:c) (hcov:pX P r [] [σ]=true)
  (h:mX P r (fun s'=>eD P E F (.go k s' True)) (.go σ s True)):eD P E F (.draw id r k s c):=
 DQ [] [σ] hP hc hcov h
attribute [go_sem] BT tE o_ aR
theorem eP {r:Array Oper} (hb:kH r=true):∀ {τ:List Nat} {fuel:Nat} {listed:Array Bool},nZ r fuel listed τ->∀ {p q:Nat} {o:Oper} {e:Edge},r[q]? =some o->e∈o.after.toList->Region.binds .any e=true->e.on=p->listed.size=r.size->listed.getD p true=false->aQ τ p q=true
 |[],fuel,listed,_,p,q,o,e,ho,he,hbd,hp,_,_=>by
  have:=oZ hb ho he hbd
  simp only [aQ,decide_eq_true_eq]
  omega
 |i::τ,0,listed,h,_,_,_,_,_,_,_,_,_,_=>h.elim
 |i::τ,fuel+1,listed,⟨hi,hd⟩,p,q,o,e,ho,he,hbd,hp,hsz,hl=>by
  obtain⟨oi,hoi,h1,h2⟩:=im.1 hi
  have hil:i < listed.size:=by rw [hsz];exact (K9.1 hoi).1
  simp only [aQ]
  by_cases h3:i=p
  ·rw [if_pos h3]
  rw [if_neg h3]
  by_cases h4:i=q
  ·exfalso
   subst h4
   rw [ho] at hoi
   cases hoi
   have h5:=h2 e he hbd
   rw [hp] at h5
   have hlt:p < listed.size:=by
    have:=oZ hb ho he hbd
    have:=(K9.1 ho).1
    omega
   rw [K1,K4 hlt] at h5 hl
   simp only [K2] at h5 hl
   rw [h5] at hl
   cases hl
  rw [if_neg h4]
  exact eP hb hd ho he hbd hp (by simpa using hsz) (by rw [pW hil,if_neg h3];exact hl)
theorem kW {a b c:Nat} (h1:a≠b) (h2:b≠c) (h3:a≠c):∀ {l:List Nat},aQ l a b=true->aQ l b c=true->aQ l c a=true->False
 |[],x,y,z=>by
  simp only [aQ,decide_eq_true_eq] at x y z
  omega
 |i::l,x,y,z=>by
  simp only [aQ] at x y z
  by_cases ha:i=a
  ·subst ha
   rw [if_neg h3,if_pos rfl] at z
   cases z
  rw [if_neg ha] at x
  by_cases hb:i=b
  ·rw [if_pos hb] at x
   cases x
  rw [if_neg hb] at x y
  by_cases hc:i=c
  ·rw [if_pos hc] at y
   cases y
  rw [if_neg hc] at y z
  rw [if_neg ha] at z
  exact kW h1 h2 h3 x y z
def pY (r:Array Oper) (b c:Nat):Bool:=match r[c]? with
 |some o=>o.after.toList.any fun e=>Region.binds .any e && e.on == b
 |none=>false
def II (r:Array Oper) (ex:List (Nat×Nat)):Bool:=ex.any fun u=>ex.any fun v=>v.2 == u.1 && (u.1 != v.1 && (u.2 != v.1 && (u.1 != u.2 && (pY r u.2 v.1 && decide (u.2 < r.size)))))
def y4 (P:Program) (r:Array Oper) (U:List (Nat×Nat)) (os:List (List Nat)):Bool:=
 kH r && U.all (fun u=>u.1 != u.2) && os.all (fun σ=>σ.length == r.size && (List.range r.size).all σ.contains && σ.all fun i=>decide (i < r.size)) &&
 (let T:=yZ r;(kc U).all fun ex=>II r ex || os.any fun σ=>yC P r T ex σ)
theorem BV {P:Program} {E:Entry} {id:Nat} {r:Array Oper} {U:List (Nat×Nat)} {os:List (List Nat)} (hP:P.follows .mixedOrders=true) (hcov:y4 P r U os=true) {s:S} {K:S->Prop}
  (h:∀ σ∈os,∃ s',uU P r σ s s'/\∀ β a w,Sim E β s' a w->∃ β' t,K t/\Sim E β' t a w):mP P E (.region id r true) s fun e s'=>e=.normal/\K s':=by
 intro β a w hs Q hQ
 refine wp_region_draw fun t=>?_
 simp only [Region.schedule,hP,LX,if_true]
 simp only [y4,K0] at hcov
 obtain⟨⟨⟨hback,hU⟩,hperm⟩,hch⟩:=hcov
 have hd:=il (r:=r) r.size t (Array.replicate r.size false)
 obtain⟨ex,hex,hbef⟩:=kd (Region.linearise .any r t) (U:=U) fun u hu=>by
  have:=K3.1 hU u hu
  simpa using this
 have hsome:=K3.1 hch ex hex
 rcases LR.1 hsome with hbad|hsome
 ·exfalso
  obtain⟨u,hu,hbad⟩:=Lf.1 hbad
  obtain⟨v,hv,hbad⟩:=Lf.1 hbad
  simp only [K0,beq_iff_eq,bne_iff_ne,ne_eq,decide_eq_true_eq] at hbad
  obtain⟨h1,h2,h3,h4,h5,h6⟩:=hbad
  have b1:=hbef u.1 u.2 (by rw [Lr];exact hu)
  have b2:=hbef v.1 v.2 (by rw [Lr];exact hv)
  rw [h1] at b2
  unfold pY at h5
  split at h5
  ·rename_i o ho
   obtain⟨e,he,he2⟩:=Lf.1 h5
   simp only [K0,beq_iff_eq] at he2
   have b3:=eP hback hd ho he he2.1 he2.2 zP (by simp [K1,h6])
   exact kW h4 h3 h2 b1 b3 b2
  cases h5
 obtain⟨σ,hσ,hok⟩:=Lf.1 hsome
 have hp:=K3.1 hperm σ hσ
 simp only [K0,beq_iff_eq,K3,Lz,decide_eq_true_eq] at hp
 obtain⟨⟨hlen,hall⟩,hlt⟩:=hp
 obtain⟨s',hrun,hK⟩:=h σ hσ
 have hs2:Sim E β s a { w with drawn:=w.drawn+1 }:=⟨hs.dfr,hs.sl,⟨hs.hp.len,hs.hp.ob,hs.hp.flat,hs.hp.apart⟩,hs.ent,⟨hs.st.le,hs.st.os,hs.st.tape,hs.st.output,hs.st.size,hs.st.block,hs.st.len,hs.st.old,hs.st.fresh⟩⟩
 refine iM hback (fun β' a' w' hs'=>let⟨β2,t2,hk2,hs2⟩:=hK β' a' w' hs';hQ .normal t2 β2 a' w' ⟨rfl,hk2⟩ hs2) (Region.linearise .any r t) r.size _ σ s β a _ hd zP zO (fun i=>?_) (fun i o ho hl=>?_) hok (fun p q hpq _ _=>hbef p q hpq) hrun hs2
 ·constructor
  ·intro hi
   refine⟨hlt i hi,?_⟩
   simp [K1,hlt i hi]
  rintro⟨hi,_⟩
  simpa using hall i hi
 exfalso
 simp only [K1,Ly] at hl
 split at hl<;>cases hl
theorem aX {P:Program} {E:Entry} {F:S->Prop} {id:Nat} {r:Array Oper} {k:List dP} {s:S} {c:Prop} (U:List (Nat×Nat)) (os:List (List Nat)) (hP:P.follows .mixedOrders=true) (hc:c) (hcov:y4 P r U os=true)
  (h:aR (fun σ=>mX P r (fun s'=>eD P E F (.go k s' True)) (.go σ s True)) os):eD P E F (.draw id r k s c):=by
 refine⟨hc,d9 (BV hP hcov (K:=fun s'=>eD P E F (.go k s' True)) fun σ hσ=>let⟨s',h1,h2⟩:=(gq h σ hσ).2;⟨s',h1,fun β a w hs=>⟨β,s',h2,hs⟩⟩) fun e s' hk=>?_⟩
 obtain⟨rfl,hk⟩:=hk
 exact hk.2
def pZ (P:Program) (r:Array Oper) (i j:Oper):Bool:=
 wC i.dst j.dst && nX i.dst (dV r j) && nX j.dst (dV r i) && (kG P i == 0 && kG P j != 5 || kG P i == 1 && (kG P j != 4 && kG P j != 3))
def Kh (P:Program) (o:Oper) (s s':S):Prop:=
 (∃ x,bc P s o.type o.op=some x/\x.c/\s'=s.put o.dst x.v x.hp)\/
 (∃ (y:Operand) (args:Array Operand) (at_:Array TypeId) (f:Nat) (caps:List Sc) (avs:List AV) (res:AV) (h':Hp),o.op=.call ⟨.value y,args,at_⟩/\s.ev y=some (.cl f caps)/\s.evs args.toList=some avs/\
  dJ P f (avs++jq caps) s.hp res h'/\s'=s.put o.dst (some res) h')
def cu (P:Program) (r:Array Oper) (i:Nat) (s s':S):Prop:=
 match r[i]? with
 |none=>s'=s
 |some o=>match dF r s o with
  |some true=>Kh P o s s'
  |some false=>s'=s.put o.dst (some (.tu [])) s.hp
  |none=>False
def wI (P:Program) (r:Array Oper):List Nat->S->S->Prop
 |[],s,s'=>s'=s
 |i::l,s,s''=>∃ s',cu P r i s s'/\wI P r l s' s''
theorem IJ {P:Program} {r:Array Oper} {i j:Nat} {oi oj:Oper} (hi:r[i]? =some oi) (hj:r[j]? =some oj) (hind:pZ P r oi oj=true) {s s1 s2:S} (h1:cu P r i s s1) (h2:cu P r j s1 s2):
  ∃ s1',cu P r j s s1'/\cu P r i s1' s2:=by
 simp only [pZ,K0,La,beq_iff_eq,bne_iff_ne] at hind
 obtain⟨⟨⟨hne,hij⟩,hji⟩,hcls⟩:=hind
 have hci:kG P oi=0\/kG P oi=1:=by rcases hcls with h|h;exact .inl h.1;exact .inr h.1
 unfold cu at h1 h2
 rw [hi] at h1
 rw [hj] at h2
 dsimp only at h1 h2
 have key:∃ v,s1=s.put oi.dst v s.hp/\∀ (t:S),fQ (dV r oi) s t->(kG P oi=0\/Hp.ext s.hp t.hp)->cu P r i t (t.put oi.dst v t.hp):=by
  split at h1
  ·rename_i hg
   rcases h1 with⟨x,hx,hc,rfl⟩|⟨y,args,at_,f,caps,avs,res,h',ho,_⟩
   ·have hx2:x.hp=s.hp/\∀ t:S,fQ (dV r oi) s t->(kG P oi=0\/Hp.ext s.hp t.hp)->bc P t oi.type oi.op=some ⟨x.v,t.hp,x.c⟩:=by
     have eqv:∀ t:S,fQ (dV r oi) s t->bc P t oi.type oi.op=bc P ⟨s.sl,t.hp⟩ oi.type oi.op:=fun t ha=>(eF (s:=⟨s.sl,t.hp⟩) (s':=t) rfl (fun q hq=>cR ha q hq)).symm
     rcases hci with h0|h0
     ·obtain⟨e1,e2⟩:=jC h0 hx
      exact⟨e1,fun t ha _=>by rw [eqv t ha];exact e2 t.hp⟩
     obtain⟨e1,e2⟩:=pS h0 hx
     exact⟨e1,fun t ha he=>by rw [eqv t ha];exact e2 t.hp (he.resolve_left (by rw [h0];simp))⟩
    refine⟨x.v,by rw [hx2.1],fun t ha he=>?_⟩
    unfold cu
    rw [hi]
    dsimp only
    rw [<-bD ha,hg]
    exact .inl ⟨_,hx2.2 t ha he,hc,rfl⟩
   exfalso
   have:kG P oi=3:=by unfold kG;rw [ho];rfl
   omega
  ·rename_i hg
   refine⟨some (.tu []),h1,fun t ha _=>?_⟩
   unfold cu
   rw [hi]
   dsimp only
   rw [<-bD ha,hg]
  exact h1.elim
 obtain⟨v,rfl,hstep⟩:=key
 have hal:fQ (dV r oj) s (s.put oi.dst v s.hp):=eE hij
 have hhp:(s.put oi.dst v s.hp).hp=s.hp:=fZ _ _ _ _
 rw [<-bD hal] at h2
 have fin:∀ (u:Option AV) (h':Hp),s2=(s.put oi.dst v s.hp).put oj.dst u h'->(kG P oi=0\/Hp.ext s.hp h')->cu P r j s (s.put oj.dst u h')->∃ s1',cu P r j s s1'/\cu P r i s1' s2:=by
  intro u h' he hx hj'
  refine⟨s.put oj.dst u h',hj',?_⟩
  have h3:=hstep (s.put oj.dst u h') (eE hji) (by rw [fZ];exact hx)
  rw [fZ] at h3
  rw [he,oY s v u s.hp h' hne]
  exact h3
 split at h2
 ·rename_i hg
  rcases h2 with⟨x,hx,hc,rfl⟩|⟨y,args,at_,f,caps,avs,res,h',ho,hy,ha,hcall,rfl⟩
  ·have hx':bc P s oj.type oj.op=some x:=by rw [eF (s:=s) (s':=s.put oi.dst v s.hp) hhp.symm (cR hal)];exact hx
   refine fin x.v x.hp rfl ?_ ?_
   ·rcases hcls with h0|h0
    ·exact .inl h0.1
    right
    have h4:kG P oj≠4:=h0.2.1
    exact A8 hx' h4
   unfold cu
   rw [hj]
   dsimp only
   rw [hg]
   exact .inl ⟨x,hx',hc,rfl⟩
  have hal':=cR hal
  rw [ho] at hal'
  have e1:s.ev y=some (.cl f caps):=by
   rw [eO (s:=s) (s':=s.put oi.dst v s.hp) (x:=y) (fun t ht=>hal' t (dx (by subst ht;simp [Op.operands,Call.operands])))]
   exact hy
  have e2:s.evs args.toList=some avs:=by
   rw [ik (s:=s) (s':=s.put oi.dst v s.hp) (l:=args.toList) (fun z hz=>eO fun t ht=>hal' t (dx (by subst ht;simp [Op.operands,Call.operands];right;simpa using hz)))]
   exact ha
  rw [hhp] at hcall
  refine fin (some res) h' rfl (.inl (by
   have h3:kG P oj=3:=by unfold kG;rw [ho];rfl
   rcases hcls with h|h
   ·exact h.1
   exact absurd h3 h.2.2)) ?_
  unfold cu
  rw [hj]
  dsimp only
  rw [hg]
  exact .inr ⟨y,args,at_,f,caps,avs,res,h',ho,e1,e2,hcall,rfl⟩
 ·rename_i hg
  refine fin (some (.tu [])) s.hp (by rw [h2,hhp]) (.inr fun o ob h=>h) ?_
  unfold cu
  rw [hj]
  dsimp only
  rw [hg]
 exact h2.elim
theorem HH {P:Program} {r:Array Oper} {i j:Nat} {oi oj:Oper} (hi:r[i]? =some oi) (hj:r[j]? =some oj) (hind:ia P r oi oj=true) {s s1 s2:S} (h1:cu P r i s s1) (h2:cu P r j s1 s2):
  ∃ s1',cu P r j s s1'/\cu P r i s1' s2:=by
 simp only [ia,K0,beq_iff_eq] at hind
 obtain⟨⟨⟨hne,hij⟩,hji⟩,hcj⟩:=hind
 unfold cu at h1 h2
 rw [hi] at h1
 rw [hj] at h2
 dsimp only at h1 h2
 have key:∃ v hp,s1=s.put oi.dst v hp/\∀ (t:S),fQ (dV r oi) s t->t.hp=s.hp->cu P r i t (t.put oi.dst v hp):=by
  split at h1
  ·rename_i hg
   rcases h1 with⟨x,hx,hc,rfl⟩|⟨y,args,at_,f,caps,avs,res,h',ho,hy,ha,hcall,rfl⟩
   ·refine⟨x.v,x.hp,rfl,fun t ha he=>?_⟩
    unfold cu
    rw [hi]
    dsimp only
    rw [<-bD ha,hg]
    exact .inl ⟨x,by rw [<-eF he.symm (cR ha)];exact hx,hc,rfl⟩
   refine⟨some res,h',rfl,fun t hal he=>?_⟩
   unfold cu
   rw [hi]
   dsimp only
   rw [<-bD hal,hg]
   have hal':=cR hal
   rw [ho] at hal'
   have e1:t.ev y=some (.cl f caps):=by
    rw [<-eO (s:=s) (s':=t) (x:=y) (fun q hq=>hal' q (dx (by subst hq;simp [Op.operands,Call.operands])))]
    exact hy
   have e2:t.evs args.toList=some avs:=by
    rw [<-ik (s:=s) (s':=t) (l:=args.toList) (fun z hz=>eO fun q hq=>hal' q (dx (by subst hq;simp [Op.operands,Call.operands];right;simpa using hz)))]
    exact ha
   exact .inr ⟨y,args,at_,f,caps,avs,res,h',ho,e1,e2,by rw [he];exact hcall,rfl⟩
  ·rename_i hg
   refine⟨some (.tu []),s.hp,h1,fun t ha he=>?_⟩
   unfold cu
   rw [hi]
   dsimp only
   rw [<-bD ha,hg]
   dsimp only
   rw [he]
  exact h1.elim
 obtain⟨v,hp,rfl,hstep⟩:=key
 have hal:fQ (dV r oj) s (s.put oi.dst v hp):=eE hij
 rw [<-bD hal] at h2
 have fin:∀ (u:Option AV),s2=(s.put oi.dst v hp).put oj.dst u hp->cu P r j s (s.put oj.dst u s.hp)->∃ s1',cu P r j s s1'/\cu P r i s1' s2:=by
  intro u he hj'
  refine⟨s.put oj.dst u s.hp,hj',?_⟩
  have h3:=hstep (s.put oj.dst u s.hp) (eE hji) (fZ _ _ _ _)
  rw [he,oY s v u hp hp hne]
  have e:∀ (a b:S) (d:Option Tmp) (x:Option AV) (h:Hp),a.sl=b.sl->a.put d x h=b.put d x h:=by
   intro a b d x h hab
   cases d<;>simp [S.put,hab]
  rw [e (s.put oj.dst u hp) (s.put oj.dst u s.hp) oi.dst v hp (by cases oj.dst<;>rfl)]
  exact h3
 split at h2
 ·rename_i hg
  rcases h2 with⟨x,hx,hc,rfl⟩|⟨y,args,at_,f,caps,avs,res,h',ho,_⟩
  ·have hx1:bc P ⟨s.sl,hp⟩ oj.type oj.op=some x:=by
    rw [eF (s:=⟨s.sl,hp⟩) (s':=s.put oi.dst v hp) (by rw [fZ]) (fun q hq=>cR hal q hq)]
    exact hx
   obtain⟨e1,e2⟩:=jC hcj hx1
   have e3:=e2 s.hp
   refine fin x.v (by rw [e1]) ?_
   unfold cu
   rw [hj]
   dsimp only
   rw [hg]
   exact .inl ⟨_,e3,hc,rfl⟩
  exfalso
  have:kG P oj=3:=by unfold kG;rw [ho];rfl
  omega
 ·rename_i hg
  refine fin (some (.tu [])) (by rw [h2,fZ]) ?_
  unfold cu
  rw [hj]
  dsimp only
  rw [hg]
 exact h2.elim
def y6 (P:Program) (r:Array Oper) (T:List Nat) (ex:List (Nat×Nat)) (p q:Nat):Bool:=
 p != q && !(T.getD p 0).testBit q &&
 ((T.getD q 0).testBit p || ex.contains (p,q) || match r[p]?,r[q]? with
  |some x,some y=>pZ P r x y || ia P r x y
  |_,_=>false)
def kX (P:Program) (r:Array Oper) (T:List Nat) (ex:List (Nat×Nat)):List Nat->Bool
 |[]=>true
 |p::l=>l.all (y6 P r T ex p) && kX P r T ex l
theorem tF {P:Program} {r:Array Oper} {T:List Nat} {ex:List (Nat×Nat)} {i:Nat}:∀ {l m:List Nat},kX P r T ex (l++i::m)=true->kX P r T ex (l++m)=true
 |[],m,h=>by simp only [LJ,kX,K0] at h⊢;exact h.2
 |p::l,m,h=>by
  simp only [Ls,kX,K0,K3] at h⊢
  refine⟨fun q hq=>h.1 q ?_,tF h.2⟩
  simp only [Lh,Lb] at hq⊢
  exact hq.imp id .inr
theorem A9 {P:Program} {r:Array Oper} {T:List Nat} {ex:List (Nat×Nat)} {i p:Nat}:∀ {l m:List Nat},kX P r T ex (l++i::m)=true->p∈l->y6 P r T ex p i=true
 |[],m,_,h=>by simp at h
 |q::l,m,h,hp=>by
  simp only [Ls,kX,K0,K3] at h
  rcases Lb.1 hp with rfl|hp
  ·exact h.1 i zP
  exact A9 h.2 hp
theorem tG {P:Program} {r:Array Oper} {T:List Nat} {ex:List (Nat×Nat)} {i p:Nat} {l:List Nat} (h:kX P r T ex (i::l)=true) (hp:p∈l):y6 P r T ex i p=true:=by
 simp only [kX,K0,K3] at h
 exact h.1 p hp
theorem p_ {P:Program} {r:Array Oper} {T:List Nat} {ex:List (Nat×Nat)}:∀ {l:List Nat},kX P r T ex l=true->l.Nodup
 |[],_=>L4
 |p::l,h=>by
  refine Lm.2 ⟨fun hp=>?_,p_ (by simp only [kX,K0] at h;exact h.2)⟩
  have:=tG h hp
  simp [y6] at this
theorem qa {P:Program} {r:Array Oper} {i:Nat}:∀ {l m:List Nat} {s s':S},(∀ p∈l,∃ x y,r[p]? =some x/\r[i]? =some y/\(pZ P r x y || ia P r x y)=true)->wI P r (l++i::m) s s'->wI P r (i::(l++m)) s s'
 |[],m,s,s',_,h=>h
 |p::l,m,s,s',hl,h=>by
  obtain⟨s1,h1,h2⟩:=h
  obtain⟨s2,h3,h4⟩:=qa (fun q hq=>hl q (LP _ hq)) h2
  obtain⟨x,y,hx,hy,hind⟩:=hl p zP
  rcases (La _ _).mp hind with hind|hind
  ·obtain⟨s1',h5,h6⟩:=IJ hx hy hind h1 h3
   exact⟨s1',h5,s2,h6,h4⟩
  obtain⟨s1',h5,h6⟩:=HH hx hy hind h1 h3
  exact⟨s1',h5,s2,h6,h4⟩
theorem DR {P:Program} {E:Entry} {r:Array Oper} {i:Nat} {s s1:S} {β:Be} {a:Act} {w:World} {Q:Exit->Act->World->Prop} {K:Act->World->Prop} (h:cu P r i s s1) (hs:Sim E β s a w) (hK:∀ β' a' w',Sim E β' s1 a' w'->K a' w'):wpOp P r Q i K a w:=by
 unfold wpOp
 unfold cu at h
 split at h
 ·rename_i hi
  subst h
  rw [hi]
  exact hK β a w hs
 rename_i o ho
 rw [ho]
 dsimp only
 split at h
 ·rename_i hg
  rw [if_pos (iI hs.sl hg)]
  refine .inl ?_
  unfold Oper.wp
  rcases h with⟨x,hx,hc,rfl⟩|⟨y,args,at_,f,caps,avs,res,h',hop,hy,ha,⟨⟨fn,hfn,hname,hbody⟩,hcall⟩,rfl⟩
  ·obtain⟨β',w',hst,hh,hx'⟩:=mO hs.hp hs.sl hx hc
   rcases hx' with⟨v,av,hrun,hv,hr⟩|⟨hrun,hv⟩
   ·rw [hrun]
    rw [hv] at hK
    exact hK β' _ w' (gf hs hst hh o.dst hr)
   rw [hrun]
   rw [hv] at hK
   exact hK β' _ w' (js hs hst hh o.dst undef)
  obtain⟨cvs,hxe,hcl⟩:dZ β (.cl f caps) (a.eval y):=cy hs.sl hy
  have hav:=AZ hs.sl ha
  have hvs:L2 (dZ β) (avs++jq caps) (args.toList.map a.eval++cvs):=hav.append (oU hcl)
  have hrun:(execOp a.eval o).run P w=.ok (.enter f (args.toList.map a.eval++cvs).toArray) w:=by
   unfold execOp
   rw [hop]
   have e1:args.map a.eval=(args.toList.map a.eval).toArray:=by apply Array.ext';simp
   have hname':¬ fn.name= "runtime.NumGoroutine":=by simpa using hname
   simp only [resolve,hxe,Deferred.ofValue,invoke,callFunc,Lx,run_program,LS,LA,hfn,e1]
   simp [hname',hbody]
  rw [hrun,Oper.upon_enter]
  refine (hcall β w _ hs.hp hvs).mono fun e w' ⟨β',v,he,hr,hh,hst⟩=>?_
  subst he
  exact hK β' _ w' (gf hs hst hh o.dst hr)
 ·rename_i hg
  rw [iI hs.sl hg]
  subst h
  exact hK β _ w (gf hs (StepR.refl β s.hp w hs.hp.len) hs.hp o.dst ⟨[],rfl,trivial⟩)
 exact h.elim
theorem jD {P:Program} {E:Entry} {r:Array Oper} {Q:Exit->Act->World->Prop} {ex:List (Nat×Nat)} {s':S} (hback:kH r=true) (hQ:∀ β' a' w',Sim E β' s' a' w'->Q .normal a' w'):
  ∀ (τ:List Nat) (fuel:Nat) (listed:Array Bool) (σ:List Nat) (s:S) (β:Be) (a:Act) (w:World),nZ r fuel listed τ->listed.size=r.size->σ.length<=fuel->(∀ i,i∈σ↔i < r.size/\listed.getD i true=false)->y0 r listed->
   kX P r (yZ r) ex σ=true->(∀ p q,ex.contains (p,q)=true->p∈σ->q∈σ->aQ τ p q=true)->wI P r σ s s'->Sim E β s a w->wpOps P r Q τ a w
 |[],fuel,listed,σ,s,β,a,w,hd,hsz,hf,hm,hc,hok,hx,hrun,hs=>by
  have hnil:σ=[]:=by
   rcases tD hd with rfl|hd
   ·exact LI.1 zO
   cases σ with
   |nil=>rfl
   |cons p l=>
    exfalso
    have hp:=(hm p).1 zP
    have:p∈Region.ready .any r listed:=by
     refine im.2 ⟨r[p],K4 hp.1,hp.2,fun e he hb=>?_⟩
     have hbit:((yZ r).getD p 0).testBit e.on=true:=(pU (K4 hp.1) e.on).2 ⟨e,he,hb,.inl rfl⟩
     have hlt0:=oZ hback (K4 hp.1) he hb
     have hlt:e.on < r.size:=L7 hlt0 hp.1
     cases hl:listed.getD e.on false with
     |true=>rfl
     |false=>
      exfalso
      have hl':listed.getD e.on true=false:=by
       rw [K1,K4 zO] at hl⊢
       exact hl
      have hmem:e.on∈p::l:=(hm e.on).2 ⟨hlt,hl'⟩
      rcases Lb.1 hmem with hep|hmem
      ·omega
      have:=tG hok hmem
      simp only [y6,K0,Li] at this
      rw [this.1.2] at hbit
      cases hbit
    rw [hd] at this
    simp at this
  subst hnil
  have:s'=s:=hrun
  subst this
  exact hQ β a w hs
 |i::τ,0,listed,σ,s,β,a,w,hd,_,_,_,_,_,_,_,_=>hd.elim
 |i::τ,fuel+1,listed,σ,s,β,a,w,hd,hsz,hf,hm,hc,hok,hx,hrun,hs=>by
  obtain⟨hi,hd⟩:=hd
  obtain⟨o,ho,h1,h2⟩:=im.1 hi
  have hil:i < r.size:=(K9.1 ho).1
  have hiσ:i∈σ:=(hm i).2 ⟨hil,h1⟩
  obtain⟨l,m,rfl⟩:=LU hiσ
  have hnd:=p_ hok
  have hfront:∀ p∈l,∃ x y,r[p]? =some x/\r[i]? =some y/\(pZ P r x y || ia P r x y)=true:=by
   intro p hp
   have hpl:=(hm p).1 (by simp [hp])
   have h3:=A9 hok hp
   have hpi:p≠i:=by
    intro e
    subst e
    simp [y6] at h3
   simp only [y6,K0,La] at h3
   rcases h3.2 with (h4|h4)|h4
   ·exfalso
    have:=pV hc i o ho h2 p h4
    have h5:=hpl.2
    rw [K1,K4 zO] at this h5
    simp only [K2] at this h5
    rw [this] at h5
    cases h5
   ·exfalso
    have:=hx p i h4 (by simp [hp]) zP
    simp [aQ,hpi,Ne.symm hpi] at this
   split at h4
   ·rename_i x y hx hy
    exact⟨x,y,hx,hy,h4⟩
   cases h4
  obtain⟨s1,h3,h4⟩:=qa hfront hrun
  have hset:∀ (j:Nat) (d:Bool),(listed.setIfInBounds i true).getD j d=if i=j then true else listed.getD j d:=fun j d=>pW zO
  rw [wpOps_cons]
  refine DR h3 hs fun β' a' w' hs'=>?_
  refine jD hback hQ τ fuel (listed.setIfInBounds i true) (l++m) s1 β' a' w' hd (by simpa using hsz) ?_ ?_ ?_ (tF hok) ?_ h4 hs'
  ·simp only [Ll,Lt] at hf⊢
   omega
  ·intro j
   have hj:=hm j
   rw [hset]
   have hd1:i ∉ l/\i ∉ m:=by
    rw [LB] at hnd
    exact⟨fun h=>hnd.2.2 i h i zP rfl,(Lm.1 hnd.2.1).1⟩
   simp only [Lh,Lb] at hj⊢
   by_cases hij:i=j
   ·subst hij
    simp [hd1.1,hd1.2]
   rw [if_neg hij,<-hj]
   simp [Ne.symm hij]
  ·intro j oj hj hl e he hb
   rw [hset] at hl⊢
   by_cases hij:i=j
   ·subst hij
    rw [hj] at ho
    cases ho
    split
    ·rfl
    exact h2 e he hb
   rw [if_neg hij] at hl
   split
   ·rfl
   exact hc j oj hj hl e he hb
  intro p q hpq hp hq
  have hd1:i ∉ l/\i ∉ m:=by
   rw [LB] at hnd
   exact⟨fun h=>hnd.2.2 i h i zP rfl,(Lm.1 hnd.2.1).1⟩
  have hne:∀ x∈l++m,i≠x:=by
   intro x hx e
   subst e
   exact (Lh.1 hx).elim hd1.1 hd1.2
  have hin:∀ x∈l++m,x∈l++i::m:=by
   intro x hx
   simp only [Lh,Lb] at hx⊢
   exact hx.imp id .inr
  have:=hx p q hpq (hin p hp) (hin q hq)
  simpa [aQ,hne p hp,hne q hq] using this
def y7 (P:Program) (r:Array Oper) (U:List (Nat×Nat)) (os:List (List Nat)):Bool:=
 kH r && U.all (fun u=>u.1 != u.2) && os.all (fun σ=>σ.length == r.size && (List.range r.size).all σ.contains && σ.all fun i=>decide (i < r.size)) &&
 (let T:=yZ r;(kc U).all fun ex=>II r ex || os.any fun σ=>kX P r T ex σ)
theorem BW {P:Program} {E:Entry} {id:Nat} {r:Array Oper} {U:List (Nat×Nat)} {os:List (List Nat)} (hP:P.follows .mixedOrders=true) (hcov:y7 P r U os=true) {s:S} {K:S->Prop}
  (h:∀ σ∈os,∃ s',wI P r σ s s'/\∀ β a w,Sim E β s' a w->∃ β' t,K t/\Sim E β' t a w):mP P E (.region id r true) s fun e s'=>e=.normal/\K s':=by
 intro β a w hs Q hQ
 refine wp_region_draw fun t=>?_
 simp only [Region.schedule,hP,LX,if_true]
 simp only [y7,K0] at hcov
 obtain⟨⟨⟨hback,hU⟩,hperm⟩,hch⟩:=hcov
 have hd:=il (r:=r) r.size t (Array.replicate r.size false)
 obtain⟨ex,hex,hbef⟩:=kd (Region.linearise .any r t) (U:=U) fun u hu=>by
  have:=K3.1 hU u hu
  simpa using this
 have hsome:=K3.1 hch ex hex
 rcases LR.1 hsome with hbad|hsome
 ·exfalso
  obtain⟨u,hu,hbad⟩:=Lf.1 hbad
  obtain⟨v,hv,hbad⟩:=Lf.1 hbad
  simp only [K0,beq_iff_eq,bne_iff_ne,ne_eq,decide_eq_true_eq] at hbad
  obtain⟨h1,h2,h3,h4,h5,h6⟩:=hbad
  have b1:=hbef u.1 u.2 (by rw [Lr];exact hu)
  have b2:=hbef v.1 v.2 (by rw [Lr];exact hv)
  rw [h1] at b2
  unfold pY at h5
  split at h5
  ·rename_i o ho
   obtain⟨e,he,he2⟩:=Lf.1 h5
   simp only [K0,beq_iff_eq] at he2
   have b3:=eP hback hd ho he he2.1 he2.2 zP (by simp [K1,h6])
   exact kW h4 h3 h2 b1 b3 b2
  cases h5
 obtain⟨σ,hσ,hok⟩:=Lf.1 hsome
 have hp:=K3.1 hperm σ hσ
 simp only [K0,beq_iff_eq,K3,Lz,decide_eq_true_eq] at hp
 obtain⟨⟨hlen,hall⟩,hlt⟩:=hp
 obtain⟨s',hrun,hK⟩:=h σ hσ
 have hs2:Sim E β s a { w with drawn:=w.drawn+1 }:=⟨hs.dfr,hs.sl,⟨hs.hp.len,hs.hp.ob,hs.hp.flat,hs.hp.apart⟩,hs.ent,⟨hs.st.le,hs.st.os,hs.st.tape,hs.st.output,hs.st.size,hs.st.block,hs.st.len,hs.st.old,hs.st.fresh⟩⟩
 refine jD hback (fun β' a' w' hs'=>let⟨β2,t2,hk2,hs2⟩:=hK β' a' w' hs';hQ .normal t2 β2 a' w' ⟨rfl,hk2⟩ hs2) (Region.linearise .any r t) r.size _ σ s β a _ hd zP zO (fun i=>?_) (fun i o ho hl=>?_) hok (fun p q hpq _ _=>hbef p q hpq) hrun hs2
 ·constructor
  ·intro hi
   refine⟨hlt i hi,?_⟩
   simp [K1,hlt i hi]
  rintro⟨hi,_⟩
  simpa using hall i hi
 exfalso
 simp only [K1,Ly] at hl
 split at hl<;>cases hl
def wJ (P:Program) (r:Array Oper) (G:S->Prop):G7->Prop
 | .go l s c=>c/\∃ s',wI P r l s s'/\G s'
 | .call f args d l s c=>c/\∃ res h',dJ P f args s.hp res h'/\∃ s',wI P r l (s.put d (some res) h') s'/\G s'
 | .fin s c=>c/\G s
 | .bad=>False
theorem BX {P:Program} {r:Array Oper} {G:S->Prop} {l:List Nat} {s:S} {c:Prop} (h:wJ P r G (tE P r l s c)):wJ P r G (.go l s c):=by
 cases l with
 |nil=>exact⟨h.1,s,rfl,h.2⟩
 |cons i l=>
  simp only [tE] at h
  split at h
  ·rename_i o ho
   split at h
   ·rename_i b hg
    cases b with
    |true=>
     unfold o_ at h
     dsimp only at h
     split at h
     ·rename_i x args at_ hop
      split at h
      ·rename_i f caps avs hx ha
       obtain⟨hc,res,h',hcall,s',hrun,hG⟩:=h
       refine⟨hc,s',⟨_,?_,hrun⟩,hG⟩
       unfold cu
       rw [ho]
       dsimp only
       rw [hg]
       exact .inr ⟨x,args,at_,f,caps,avs,res,h',hop,hx,ha,hcall,rfl⟩
      exact h.elim
     split at h
     ·rename_i v hp d hx
      obtain⟨⟨hc,hd⟩,s',hrun,hG⟩:=h
      refine⟨hc,s',⟨_,?_,hrun⟩,hG⟩
      unfold cu
      rw [ho]
      dsimp only
      rw [hg]
      exact .inl ⟨_,hx,hd,rfl⟩
     exact h.elim
    |false=>
     obtain⟨hc,s',hrun,hG⟩:=h
     refine⟨hc,s',⟨_,?_,hrun⟩,hG⟩
     unfold cu
     rw [ho]
     dsimp only
     rw [hg]
   exact h.elim
  exact h.elim
theorem ab {P:Program} {r:Array Oper} {G:S->Prop}:∀ (n:Nat) {x:G7},wJ P r G (BT P r n x)->wJ P r G x
 |0,x,h=>h
 |n+1,.go l s c,h=>BX (ab n h)
 |n+1,.call ..,h=>h
 |n+1,.fin ..,h=>h
 |n+1,.bad,h=>h
theorem BY {P:Program} {E:Entry} {F:S->Prop} {id:Nat} {r:Array Oper} {k:List dP} {s:S} {c:Prop} (U:List (Nat×Nat)) (os:List (List Nat)) (hP:P.follows .mixedOrders=true) (hc:c) (hcov:y7 P r U os=true)
  (h:aR (fun σ=>wJ P r (fun s'=>eD P E F (.go k s' True)) (.go σ s True)) os):eD P E F (.draw id r k s c):=by
 refine⟨hc,d9 (BW hP hcov (K:=fun s'=>eD P E F (.go k s' True)) fun σ hσ=>let⟨s',h1,h2⟩:=(gq h σ hσ).2;⟨s',h1,fun β a w hs=>⟨β,s',h2,hs⟩⟩) fun e s' hk=>?_⟩
 obtain⟨rfl,hk⟩:=hk
 exact hk.2
theorem al {P:Program} {r:Array Oper} {G:S->Prop} {f:Nat} {avs:List AV} {d:Option Tmp} {l:List Nat} {s:S} {c:Prop} {args0:List AV} {h0 h0':Hp} {res0:AV} (hc:c) (ct:dJ P f args0 h0 res0 h0') (ρ:bu)
  (hm:kT ρ args0 avs/\ii ρ s.hp ρ h0) (hsep:cG ρ h0=true) (h:wJ P r G (.go l (s.put d (some (gU ρ s.hp.length res0)) (cQ ρ h0 h0' s.hp)) True)):wJ P r G (.call f avs d l s c):=by
 obtain⟨_,s',hrun,hG⟩:=h
 exact⟨hc,_,_,pO ct ρ hm.1 hm.2 hsep,s',hrun,hG⟩
def HI:Nat->Nat->bu->Bool
 |0,n0,ρ=>ρ.all fun|some (n,_)=>decide (n0<=n)|none=>true
 |k+1,n0,some (n,none)::ρ=>n == n0 && HI k (n0+1) ρ
 |_,_,_=>false
theorem DS:∀ {k n0:Nat} {ρ:bu},HI k n0 ρ=true->(∀ i,i < k->ρ[i]? =some (some (n0+i,none)))/\(∀ i n d,k<=i->ρ[i]? =some (some (n,d))->n0+k<=n)
 |0,n0,ρ,h=>by
  refine⟨fun i hi=>by omega,fun i n d _ hr=>?_⟩
  have:=K3.1 (by simpa [HI] using h) _ (K6 hr)
  simpa using this
 |k+1,n0,ρ,h=>by
  cases ρ with
  |nil=>cases h
  |cons x ρ=>
   cases x with
   |none=>cases h
   |some x=>
    obtain⟨n,d⟩:=x
    cases d with
    |some d=>cases h
    |none=>
     simp only [HI,K0,beq_iff_eq] at h
     obtain⟨rfl,h⟩:=h
     obtain⟨h1,h2⟩:=DS h
     refine⟨fun i hi=>?_,fun i m d hi hr=>?_⟩
     ·cases i with
      |zero=>simp
      |succ i=>
       rw [K5,h1 i zO]
       simp only [Option.some.injEq,Prod.mk.injEq,and_true]
       omega
     cases i with
     |zero=>omega
     |succ i=>
      rw [K5] at hr
      have h4:=h2 i m d zO hr
      omega
def Ga (ρ:bu) (d:Option Nat) (t s:AObj):Prop:=
 match d with
 |none=>Iv ρ none t s
 |some d=>s.esz=t.esz/\(t.own=true->s.own=true/\s.ty=t.ty/\d<=s.cs.length)/\t.fl=true/\s.fl=true/\(s.cs.drop d).take t.cs.length=t.cs
def qb (ρ:bu) (s:Hp):bu->Hp->Prop
 |[],[]=>True
 |none::ρ',some t::h=>t.cs=[]/\qb ρ s ρ' h
 |some (n,d)::ρ',some t::h=>(match s.getD n none with
  |some ob=>Ga ρ d t ob
  |none=>False)/\qb ρ s ρ' h
 |_::ρ',none::h=>qb ρ s ρ' h
 |_,_=>False
attribute [go_sem] Ga qb
theorem wK {ρ:bu} {d:Option Nat} {t s:AObj} (h:Ga ρ d t s) (ho:t.own=true):s.own=true:=by
 cases d with
 |none=>exact (iJ (show Iv ρ none t s from h) ho).2
 |some d=>exact (h.2.1 ho).1
theorem gD {ρ:bu} {s:Hp}:∀ {ρ':bu} {t:Hp},qb ρ s ρ' t->∀ {o:Nat} {ob:AObj},t[o]? =some (some ob)->
  (ρ'[o]? =some none/\ob.cs=[])\/∃ n d ob',ρ'[o]? =some (some (n,d))/\s[n]? =some (some ob')/\Ga ρ d ob ob'
 |[],[],_,o,ob,h=>by simp at h
 |x::ρ',y::t,hm,0,ob,h=>by
  simp only [K_,Option.some.injEq] at h
  subst h
  cases x with
  |none=>exact .inl ⟨rfl,hm.1⟩
  |some x=>
   obtain⟨n,d⟩:=x
   have h1:=hm.1
   split at h1
   ·rename_i ob' hob
    exact .inr ⟨n,d,ob',rfl,getD_some hob,h1⟩
   exact h1.elim
 |x::ρ',y::t,hm,o+1,ob,h=>by
  simp only [K5] at h⊢
  refine gD (ρ':=ρ') (t:=t) ?_ h
  cases x with
  |none=>cases y with
   |none=>exact hm
   |some y=>exact hm.2
  |some x=>cases y with
   |none=>exact hm
   |some y=>obtain⟨a,b⟩:=x;exact hm.2
 |[],_::_,hm,_,_,_=>by cases hm
 |x::_,[],hm,_,_,_=>by cases x with
  |none=>cases hm
  |some x=>obtain⟨a,b⟩:=x;cases hm
theorem jE {ρ:bu} {s:Hp}:∀ {ρ':bu} {t:Hp},qb ρ s ρ' t->ρ'.length=t.length
 |[],[],_=>rfl
 |x::ρ',y::t,hm=>by
  have:qb ρ s ρ' t:=by
   cases x with
   |none=>cases y with
    |none=>exact hm
    |some y=>exact hm.2
   |some x=>cases y with
    |none=>exact hm
    |some y=>obtain⟨a,b⟩:=x;exact hm.2
  simp [jE this]
 |[],_::_,hm=>by cases hm
 |x::_,[],hm=>by cases x with
  |none=>cases hm
  |some x=>obtain⟨a,b⟩:=x;cases hm
theorem y8 {β:Be} {arr:Array Value} {base esz:Nat} {cs:List (List Sc)} (hc:cp β arr base esz cs) {d:Nat} (hd:d<=cs.length) (hb:base<=arr.size):base+d*esz<=arr.size:=by
 rcases LY d with h0|hd0
 ·subst h0;omega
 rcases LY esz with h0|hpos
 ·subst h0;omega
 have hk:cs[d - 1]? =some (cs[d - 1]' zO):=K8 zO
 obtain⟨h1,h2⟩:=hc _ _ hk
 have hj:(cs[d - 1]' zO)[esz - 1]? =some ((cs[d - 1]' zO)[esz - 1]' zO):=K8 zO
 obtain⟨v,hv,_⟩:=h2 _ _ hj
 have hlt:=(K9.1 hv).1
 have e:d*esz=(d - 1)*esz+esz:=by
  rw [<-Nat.succ_mul]
  congr 1
  omega
 omega
theorem Gb {β:Be} {ρ:bu} {s t:Hp} {w:World} (hs:HSim β s w) (hm:qb ρ s ρ t) (hsep:cG ρ t=true):HSim (dt β ρ) t w:=by
 refine⟨by rw [fO,jE hm],fun o ob ho=>?_,fun o ob ho hf=>?_,fun o o' ob ob' p p' ho ho' hown hp hp' hne=>?_⟩
 ·rcases gD hm ho with⟨hr,hcs⟩|⟨n,d,ob',hr,hn,hob⟩
  ·exact⟨none,aG β hr,hcs⟩
  obtain⟨q,hq,hR⟩:=hs.ob n ob' hn
  cases d with
  |none=>
   obtain⟨hesz,hty,hown,hcs⟩:=hob
   refine⟨q,by rw [aG β hr];dsimp only;rw [KZ,hq];rfl,?_⟩
   cases q with
   |none=>
    have h0:ob'.cs=[]:=hR
    split at hcs
    ·show ob.cs=[]
     rw [<-hcs.2,h0]
    show ob.cs=[]
    rw [h0] at hcs
    cases hc:ob.cs with
    |nil=>rfl
    |cons=>rw [hc] at hcs;exact hcs.elim
   |some p=>
    obtain⟨he,arr,T,fz,hh,hc,ho2⟩:=hR
    refine⟨he.trans hesz,arr,T,fz,hh,?_,fun h=>?_⟩
    ·split at hcs
     ·rename_i hfl
      intro k c hk
      rw [<-hcs.2] at hk
      obtain⟨h1,h2⟩:=hc k c hk
      rw [hesz] at h1
      refine⟨h1,fun j x hj=>?_⟩
      obtain⟨v,hv,hr'⟩:=h2 j x hj
      rw [hesz] at hv
      exact⟨v,hv,mR (dD.1 (hs.flat n ob' hn hcs.1 c (K6 hk)) x (K6 hj)) hr'⟩
     intro k c hk
     obtain⟨c',hk',hcm⟩:=uL hcs hk
     obtain⟨h1,h2⟩:=hc k c' hk'
     rw [hesz] at h1
     refine⟨(mQ hcm).trans h1,fun j x hj=>?_⟩
     obtain⟨x',hj',hxm⟩:=yU hcm hj
     obtain⟨v,hv,hr'⟩:=h2 j x' hj'
     rw [hesz] at hv
     exact⟨v,hv,ww hxm hr'⟩
    obtain⟨hT,hf,ha⟩:=ho2 (hown h)
    exact⟨hT.trans hty,hf,ha⟩
  |some d=>
   obtain⟨hesz,hno,hfl,hfl',hcs⟩:=hob
   refine⟨q.map (fun p=>{ p with base:=p.base+d*p.esz,avail:=p.avail - d*p.esz }),by rw [aG β hr];dsimp only;rw [KZ,hq];rfl,?_⟩
   cases q with
   |none=>
    have h0:ob'.cs=[]:=hR
    show ob.cs=[]
    rw [h0] at hcs
    simpa using hcs.symm
   |some p=>
    obtain⟨he,arr,T,fz,hh,hc,ho2⟩:=hR
    refine⟨he.trans hesz,arr,T,fz,hh,?_,fun h=>?_⟩
    ·intro k c hk
     have hkl:k < ob.cs.length:=(K7.1 hk).1
     rw [<-hcs,Lk hkl,Lj] at hk
     obtain⟨h1,h2⟩:=hc _ c hk
     rw [hesz] at h1
     refine⟨h1,fun j x hj=>?_⟩
     obtain⟨v,hv,hr'⟩:=h2 j x hj
     rw [hesz] at hv
     refine⟨v,?_,mR (dD.1 (hs.flat n ob' hn hfl' c (K6 hk)) x (K6 hj)) hr'⟩
     dsimp only
     rw [show p.base+d*p.esz+k*ob.esz+j=p.base+(d+k)*ob.esz+j from by rw [he,hesz,Ln];omega]
     exact hv
    obtain⟨h1,h2,h3⟩:=hno h
    obtain⟨hT,hf,ha⟩:=ho2 h1
    have hfit:=y8 hc h3 zO
    rw [<-he] at hfit
    refine⟨hT.trans h2,hf,?_⟩
    show p.base+d*p.esz+(p.avail - d*p.esz)=arr.size
    omega
 ·rcases gD hm ho with⟨hr,hcs⟩|⟨n,d,ob',hr,hn,hob⟩
  ·rw [hcs];intro c hc;cases hc
  cases d with
  |none=>
   obtain⟨_,_,_,hcs⟩:=hob
   rw [hf] at hcs
   rw [<-hcs.2]
   exact hs.flat n ob' hn hcs.1
  |some d=>
   obtain⟨_,_,hfl,hfl',hcs⟩:=hob
   rw [<-hcs]
   exact fun c hc=>hs.flat n ob' hn hfl' c (LN (LO hc))
 have blk:∀ {n:Nat} {e:Option Nat} {i:Nat} {p:Pl},ρ[i]? =some (some (n,e))->(dt β ρ)[i]? =some (some p)->∃ q,β[n]? =some (some q)/\q.blk=p.blk:=by
  intro m e i p' hr' hp'
  rw [aG β hr'] at hp'
  simp only [Option.some.injEq] at hp'
  cases e with
  |none=>
   dsimp only at hp'
   rw [KZ] at hp'
   cases h:β[m]? with
   |none=>rw [h] at hp';cases hp'
   |some z=>rw [h] at hp';simp only [K2] at hp';exact⟨p',by rw [hp'],rfl⟩
  |some e=>
   dsimp only at hp'
   rw [KZ] at hp'
   cases h:β[m]? with
   |none=>rw [h] at hp';cases hp'
   |some z=>
    rw [h] at hp'
    cases z with
    |none=>cases hp'
    |some z=>simp only [K2,Lg,Option.some.injEq] at hp';exact⟨z,rfl,by rw [<-hp']⟩
 rcases gD hm ho with⟨hr,_⟩|⟨n,d,x,hr,hn,hx⟩
 ·rw [aG β hr] at hp;cases hp
 rcases gD hm ho' with⟨hr',_⟩|⟨m,e,y,hr',hm',hy⟩
 ·rw [aG β hr'] at hp';cases hp'
 have hxo:=wK hx hown
 have hnm:=uM hsep hne hr ho hr' ho' (.inl hown)
 obtain⟨q1,hq1,hb1⟩:=blk hr hp
 obtain⟨q,hq,hqb⟩:=blk hr' hp'
 rw [<-hqb,<-hb1]
 exact hs.apart n m x y q1 q hn hm' hxo hq1 hq hnm
theorem BZ {E:Entry} {n0:Nat} (hE:E.h.length=n0) {ρ:bu} {t s:S} (hid:HI n0 0 ρ=true) (hsep:cG ρ t.hp=true) (hsl:yB ρ t.sl s.sl) (hhp:qb ρ s.hp ρ t.hp) {β:Be} {a:Act} {w:World} (hs:Sim E β s a w):Sim E (dt β ρ) t a w:=by
 obtain⟨hlo,hhi⟩:=DS hid
 have hlen:=jE hhp
 have hl0:n0<=t.hp.length:=by
  rw [<-hlen]
  rcases Ld ρ.length n0 with h1|h1
  ·have:=hlo ρ.length h1
   rw [Lp (LG _)] at this
   cases this
  exact h1
 refine⟨hs.dfr,uO hsl hs.sl,Gb hs.hp hhp hsep,hs.ent,?_⟩
 have st:=hs.st
 refine⟨fun o p hp=>?_,st.os,st.tape,st.output,st.size,st.block,by rw [hE];exact hl0,fun o ob hlt ho=>?_,fun o ob p hge ho hp=>?_⟩
 ·have hlt:o < n0:=by rw [<-hE,<-hs.ent];exact (K7.1 hp).1
  have h1:=hlo o hlt
  rw [Lq] at h1
  rw [aG β h1]
  dsimp only
  rw [KZ,st.le o p hp]
  rfl
 ·rw [hE] at hlt
  have h1:=hlo o hlt
  rw [Lq] at h1
  rcases gD hhp ho with⟨hr,_⟩|⟨n,d,ob',hr,hn,hob⟩
  ·rw [h1] at hr;cases hr
  rw [h1] at hr
  simp only [Option.some.injEq,Prod.mk.injEq] at hr
  obtain⟨rfl,rfl⟩:=hr
  obtain⟨ob0,ho0,hown0⟩:=st.old o ob' (by rw [hE];exact hlt) hn
  exact⟨ob0,ho0,fun h=>hown0 (wK hob h)⟩
 rw [hE] at hge
 rcases gD hhp ho with⟨hr,_⟩|⟨n,d,ob',hr,hn,hob⟩
 ·rw [aG β hr] at hp;cases hp
 have hge':=hhi o n d hge hr
 rw [aG β hr] at hp
 cases d with
 |none=>
  simp only [Option.some.injEq] at hp
  rw [KZ] at hp
  have hb:β[n]? =some (some p):=by
   cases h:β[n]? with
   |none=>rw [h] at hp;cases hp
   |some z=>rw [h] at hp;simp only [K2] at hp;rw [hp]
  exact st.fresh n ob' p (by rw [hE];omega) hn hb
 |some d=>
  simp only [Option.some.injEq] at hp
  rw [KZ] at hp
  cases h:β[n]? with
  |none=>rw [h] at hp;cases hp
  |some z=>
   rw [h] at hp
   simp only [K2] at hp
   cases z with
   |none=>cases hp
   |some q=>
    simp only [Lg,Option.some.injEq] at hp
    have:=st.fresh n ob' q (by rw [hE];omega) hn h
    rw [<-hp]
    exact this
def HJ (P:Program) (rs:List ResultVar) (n0:Nat) (res:AV) (h':Hp) (s:S):Prop:=
 ∃ v ρ,lN P s rs=some v/\HI n0 0 ρ=true/\cG ρ h'=true/\yA ρ res v/\qb ρ s.hp ρ h'
theorem bR {P:Program} {E:Entry} {rs:List ResultVar} {n0:Nat} {res:AV} {h':Hp} {s:S} {c:Prop} (ρ:bu) (hc:c) (v:AV) (hr:lN P s rs=some v) (hid:HI n0 0 ρ=true) (hsep:cG ρ h'=true) (hm:yA ρ res v/\qb ρ s.hp ρ h'):
  eD P E (HJ P rs n0 res h') (.fin s c):=⟨hc,v,ρ,hr,hid,hsep,hm.1,hm.2⟩
theorem B0 {P:Program} {f:FuncId} {fn:Func} {c:Code} (hf:P.funcs[f]? =some fn) (hname:(fn.name == "runtime.NumGoroutine")=false) (hb:fn.body=some c) {args:List AV} {h h':Hp} {res:AV}
  (H:∀ E:Entry,E.h.length=h.length->eD P E (HJ P fn.results.toList h.length res h') (.go [.code c] ⟨jA fn.ntmps args,h⟩ True)):dJ P f args h res h':=by
 refine⟨⟨fn,hf,hname,by rw [hb];rfl⟩,fun β w vs hs hvs=>?_⟩
 refine calls_of_wp hf hb ?_
 let E:Entry:=⟨β,h,w⟩
 have hd:=(H E rfl).2
 refine hd β _ w ⟨rfl,oX hvs,hs,hs.len,StepR.refl β h w hs.len⟩ _ fun e s' β' a' w' hK hs'=>?_
 have key:HJ P fn.results.toList h.length res h' s'->a'.defers=[]/\∃ v,(results fn a'.tmps).run P w'=.ok v w'/\∃ β'' u,Ending.returned v=.returned u/\dZ β'' res u/\HSim β'' h' w'/\StepR β β'' h h' w w':=by
  intro⟨v,ρ,hr,hid,hsep,hav,hhp⟩
  obtain⟨u,hrun,hu⟩:=uT hs'.hp hs'.sl hr
  have hsim:=BZ (E:=E) rfl (t:=⟨[],h'⟩) (s:=⟨[],s'.hp⟩) hid hsep trivial hhp (β:=β') (a:=a') (w:=w') ⟨hs'.dfr,⟨fun i hi=>by simp [Slots.has] at hi,fun i x hx=>by simp [Slots.get] at hx⟩,hs'.hp,hs'.ent,hs'.st⟩
  exact⟨hs'.dfr,u,hrun,dt β' ρ,u,rfl,tq hav hu,hsim.hp,hsim.st⟩
 cases e with
 |normal=>exact key hK
 |ret=>exact key hK
 |_=>exact hK.elim
def A_ (N:Nat):Nat->bu->Hp->Bool
 |i,[],_=>decide (N<=i)
 |i,x::ρ,h=>(match decide (i < N) with
  |true=>x == some (i,none)
  |false=>match x with
   |none=>true
   |some (n,d)=>decide (N<=n) || (d.isNone && match h with
    |some t::_=>t.own
    |_=>true)) && A_ N (i+1) ρ h.tail
theorem DT {N:Nat}:∀ {ρ:bu} {i:Nat} {h:Hp},A_ N i ρ h=true->(∀ j,i+j < N->ρ[j]? =some (some (i+j,none)))/\
  (∀ j n d t,N<=i+j->ρ[j]? =some (some (n,d))->h[j]? =some (some t)->N<=n\/d=none/\t.own=true)/\N<=i+ρ.length
 |[],i,h,hh=>by
  simp only [A_,decide_eq_true_eq] at hh
  exact⟨fun j hj=>by omega,fun j n d t _ hr=>by simp at hr,by simpa using hh⟩
 |x::ρ,i,h,hh=>by
  unfold A_ at hh
  rw [K0] at hh
  obtain⟨h1,h2⟩:=hh
  obtain⟨a1,a2,a3⟩:=DT h2
  refine⟨fun j hj=>?_,fun j n d t hj hr ht=>?_,by simp only [Lt];omega⟩
  ·cases j with
   |zero=>
    rw [decide_eq_true zO] at h1
    dsimp only at h1
    rw [beq_iff_eq] at h1
    simp [h1]
   |succ j=>
    rw [K5,a1 j zO]
    simp only [Option.some.injEq,Prod.mk.injEq,and_true]
    omega
  cases j with
  |zero=>
   rw [decide_eq_false zO] at h1
   simp only [K_,Option.some.injEq] at hr
   subst hr
   cases h with
   |nil=>simp at ht
   |cons y h=>
    simp only [K_,Option.some.injEq] at ht
    subst ht
    simp only [La,decide_eq_true_eq,K0,Option.isNone_iff_eq_none] at h1
    exact h1
  |succ j=>
   rw [K5] at hr
   refine a2 j n d t zO hr ?_
   cases h with
   |nil=>simp at ht
   |cons y h=>simpa using ht
def f9 (ρ:bu) (n0:Nat) (t s:S):Prop:=A_ n0 0 ρ t.hp=true/\cG ρ t.hp=true/\yB ρ t.sl s.sl/\ii ρ s.hp ρ t.hp
theorem az {ρ:bu} {n0:Nat} {t s:S} (h1:A_ n0 0 ρ t.hp=true) (h2:cG ρ t.hp=true) (h:yB ρ t.sl s.sl/\ii ρ s.hp ρ t.hp):f9 ρ n0 t s:=⟨h1,h2,h.1,h.2⟩
theorem mZ {E:Entry} {n0:Nat} (hE:E.h.length=n0) {ρ:bu} {t s:S} (h:f9 ρ n0 t s) {β:Be} {a:Act} {w:World} (hs:Sim E β s a w):Sim E (dt β ρ) t a w:=by
 obtain⟨hid,hsep,hsl,hhp⟩:=h
 obtain⟨hlo,hhi,hle⟩:=DT hid
 simp only [Lq] at hlo hhi hle
 have hlen:=gA hhp
 have hl0:n0<=t.hp.length:=zO
 refine⟨hs.dfr,uO hsl hs.sl,uN hs.hp hhp hsep,hs.ent,?_⟩
 have st:=hs.st
 refine⟨fun o p hp=>?_,st.os,st.tape,st.output,st.size,st.block,by rw [hE];exact hl0,fun o ob hlt ho=>?_,fun o ob p hge ho hp=>?_⟩
 ·have hlt:o < n0:=by rw [<-hE,<-hs.ent];exact (K7.1 hp).1
  have h1:=hlo o hlt
  rw [aG β h1]
  dsimp only
  rw [KZ,st.le o p hp]
  rfl
 ·rw [hE] at hlt
  have h1:=hlo o hlt
  rcases eN hhp ho with⟨hr,_⟩|⟨n,d,ob',hr,hn,hob⟩
  ·rw [h1] at hr;cases hr
  rw [h1] at hr
  simp only [Option.some.injEq,Prod.mk.injEq] at hr
  obtain⟨rfl,rfl⟩:=hr
  obtain⟨ob0,ho0,hown0⟩:=st.old o ob' (by rw [hE];exact hlt) hn
  exact⟨ob0,ho0,fun h=>hown0 (iJ hob h).2⟩
 rw [hE] at hge
 rcases eN hhp ho with⟨hr,_⟩|⟨n,d,ob',hr,hn,hob⟩
 ·rw [aG β hr] at hp;cases hp
 have hge':=hhi o n d ob hge hr ho
 have fin:∀ q:Pl,β[n]? =some (some q)->q.blk=p.blk->Own E.β E.h p.blk\/E.w.heap.size<=p.blk:=by
  intro q hq hb
  rcases hge' with hN|⟨hd,hown⟩
  ·have:=st.fresh n ob' q (by rw [hE];omega) hn hq
   rw [hb] at this
   exact this
  rcases Ld n n0 with hlt|hge2
  ·obtain⟨ob0,ho0,hown0⟩:=st.old n ob' (by rw [hE];exact hlt) hn
   have hlt':n < E.β.length:=by rw [hs.ent,hE];exact hlt
   have hβ:=st.le n E.β[n] (K8 hlt')
   rw [hq] at hβ
   refine .inl ⟨n,ob0,q,ho0,hown0 (iJ hob hown).2,?_,hb⟩
   rw [K8 hlt',<-Option.some.inj hβ]
  have:=st.fresh n ob' q (by rw [hE];omega) hn hq
  rw [hb] at this
  exact this
 rw [aG β hr] at hp
 cases d with
 |none=>
  simp only [Option.some.injEq] at hp
  rw [KZ] at hp
  have hb:β[n]? =some (some p):=by
   cases h:β[n]? with
   |none=>rw [h] at hp;cases hp
   |some z=>rw [h] at hp;simp only [K2] at hp;rw [hp]
  exact fin p hb rfl
 |some d=>
  simp only [Option.some.injEq] at hp
  rw [KZ] at hp
  cases h:β[n]? with
  |none=>rw [h] at hp;cases hp
  |some z=>
   rw [h] at hp
   simp only [K2] at hp
   cases z with
   |none=>cases hp
   |some q=>
    simp only [Lg,Option.some.injEq] at hp
    exact fin q h (by rw [<-hp])
theorem m0 {P:Program} {E:Entry} {n0:Nat} (hE:E.h.length=n0) {ρ:bu} {t s:S} (h:f9 ρ n0 t s) {C:Code} {K:Exit->S->Prop} (hd:mP P E C t K):mP P E C s K:=
 fun β a w hs Q hQ=>hd _ a w (mZ hE h hs) Q hQ
theorem uV {P:Program} {E:Entry} {F:S->Prop} {b:Code} {k:List dP} {s:S} {c:Prop} {ι:Type} (n0:Nat) (hE:E.h.length=n0) (mk:S->ι->S) (J:ι->Prop) (μ:ι->Nat) (i0:ι) (ρ0:bu) (hc:c) (hJ:J i0) (h0:f9 ρ0 n0 (mk s i0) s)
  (h:∀ i,J i->∀ N:S->Prop,(∀ (s':S) (j:ι) (ρ:bu),J j->μ j < μ i->f9 ρ n0 (mk s j) s'->N s')->eD P E F (.go (.code b::.hook N::k) (mk s i) True)):eD P E F (.lp b k s c):=by
 refine⟨hc,wv (fun _=>True) (fun s' n=>∃ i ρ,J i/\f9 ρ n0 (mk s i) s'/\μ i=n) (μ i0) ⟨trivial,i0,ρ0,hJ,h0,rfl⟩ fun s' n _ ⟨i,ρ,hi,hw,hn⟩=>?_⟩
 have hd:=(h i hi (fun s''=>∃ j ρ,J j/\μ j < μ i/\f9 ρ n0 (mk s j) s'') fun s'' j ρ' hj hlt hw'=>⟨j,ρ',hj,hlt,hw'⟩).2
 refine m0 hE hw (d9 hd fun e s'' hk=>?_)
 cases e with
 |normal=>
  obtain⟨j,ρ',hj,hlt,hw'⟩:=hk
  exact⟨trivial,μ j,zO,j,ρ',hj,hw',rfl⟩
 |_=>exact hk
def B1 (P:Program) (rs:List ResultVar) (n0:Nat) (res:AV) (h':Hp) (s:S):Prop:=
 ∃ v ρ,lN P s rs=some v/\A_ n0 0 ρ h'=true/\cG ρ h'=true/\yA ρ res v/\ii ρ s.hp ρ h'
theorem wL {P:Program} {E:Entry} {rs:List ResultVar} {n0:Nat} {res:AV} {h':Hp} {s:S} {c:Prop} (ρ:bu) (hc:c) (v:AV) (hr:lN P s rs=some v) (hid:A_ n0 0 ρ h'=true) (hsep:cG ρ h'=true) (hm:yA ρ res v/\ii ρ s.hp ρ h'):
  eD P E (B1 P rs n0 res h') (.fin s c):=⟨hc,v,ρ,hr,hid,hsep,hm.1,hm.2⟩
theorem B2 {P:Program} {f:FuncId} {fn:Func} {c:Code} (hf:P.funcs[f]? =some fn) (hname:(fn.name == "runtime.NumGoroutine")=false) (hb:fn.body=some c) {args:List AV} {h h':Hp} {res:AV}
  (H:∀ E:Entry,E.h.length=h.length->eD P E (B1 P fn.results.toList h.length res h') (.go [.code c] ⟨jA fn.ntmps args,h⟩ True)):dJ P f args h res h':=by
 refine⟨⟨fn,hf,hname,by rw [hb];rfl⟩,fun β w vs hs hvs=>?_⟩
 refine calls_of_wp hf hb ?_
 let E:Entry:=⟨β,h,w⟩
 have hd:=(H E rfl).2
 refine hd β _ w ⟨rfl,oX hvs,hs,hs.len,StepR.refl β h w hs.len⟩ _ fun e s' β' a' w' hK hs'=>?_
 have key:B1 P fn.results.toList h.length res h' s'->a'.defers=[]/\∃ v,(results fn a'.tmps).run P w'=.ok v w'/\∃ β'' u,Ending.returned v=.returned u/\dZ β'' res u/\HSim β'' h' w'/\StepR β β'' h h' w w':=by
  intro⟨v,ρ,hr,hid,hsep,hav,hhp⟩
  obtain⟨u,hrun,hu⟩:=uT hs'.hp hs'.sl hr
  have hsim:=mZ (E:=E) rfl (t:=⟨[],h'⟩) (s:=⟨[],s'.hp⟩) ⟨hid,hsep,trivial,hhp⟩ (β:=β') (a:=a') (w:=w') ⟨hs'.dfr,⟨fun i hi=>by simp [Slots.has] at hi,fun i x hx=>by simp [Slots.get] at hx⟩,hs'.hp,hs'.ent,hs'.st⟩
  exact⟨hs'.dfr,u,hrun,dt β' ρ,u,rfl,tq hav hu,hsim.hp,hsim.st⟩
 cases e with
 |normal=>exact key hK
 |ret=>exact key hK
 |_=>exact hK.elim
end
end Go.Proofs.YtdiiopjaebnmfaaGreat
