import Derived.Test.YtpjcahjpjeiicaaKG23
import Derived.Test.YtpjcahjpjeiicaaKG24
import Derived.Test.YtpjcahjpjeiicaaKG25
namespace Go.Proofs.Ytpjcahjpjeiicaa.P
open Go.RowKit Go.Proofs.YtpjcahjpjeiicaaW.PrintWords Go.Proofs.YtpjcahjpjeiicaaW.PrintLast Go.Proofs.YtpjcahjpjeiicaaW.PrintMore
attribute [local go_sem] max2_int min2_int max_two min_two max_three min_three max_four min_four   -- for this text's walks alone
set_option linter.unusedVariables false
set_option linter.unusedSimpArgs false
abbrev q5_0 : Array Bool := #[Z,Z,Z,Z,Z,Z,Z,Z,Z,Z,Z,Z,Z,Z,Z,Z,Z,Z,Z,Z,Z,Z,Z,Z,Z,Z,Z,Z,Z,Z,Z,Z,Z,Z,Z,Z,Z,Z,Z,Z,Z,Z,Z,Z,Z,Z,Z,Z,Z,Z,Z,Z,Z,Z,Z]
abbrev q5_1 : Array Bool := #[Y,Z,Z,Z,Z,Z,Z,Z,Z,Z,Z,Z,Z,Z,Z,Z,Z,Z,Z,Z,Z,Z,Z,Z,Z,Z,Z,Z,Z,Z,Z,Z,Z,Z,Z,Z,Z,Z,Z,Z,Z,Z,Z,Z,Z,Z,Z,Z,Z,Z,Z,Z,Z,Z,Z]
abbrev q5_2 : Array Bool := #[Y,Y,Z,Z,Z,Z,Z,Z,Z,Z,Z,Z,Z,Z,Z,Z,Z,Z,Z,Z,Z,Z,Z,Z,Z,Z,Z,Z,Z,Z,Z,Z,Z,Z,Z,Z,Z,Z,Z,Z,Z,Z,Z,Z,Z,Z,Z,Z,Z,Z,Z,Z,Z,Z,Z]
abbrev q5_3 : Array Bool := #[Y,Y,Y,Z,Z,Z,Z,Z,Z,Z,Z,Z,Z,Z,Z,Z,Z,Z,Z,Z,Z,Z,Z,Z,Z,Z,Z,Z,Z,Z,Z,Z,Z,Z,Z,Z,Z,Z,Z,Z,Z,Z,Z,Z,Z,Z,Z,Z,Z,Z,Z,Z,Z,Z,Z]
abbrev q5_4 : Array Bool := #[Y,Y,Y,Y,Z,Z,Z,Z,Z,Z,Z,Z,Z,Z,Z,Z,Z,Z,Z,Z,Z,Z,Z,Z,Z,Z,Z,Z,Z,Z,Z,Z,Z,Z,Z,Z,Z,Z,Z,Z,Z,Z,Z,Z,Z,Z,Z,Z,Z,Z,Z,Z,Z,Z,Z]
abbrev q5_5 : Array Bool := #[Y,Y,Y,Y,Y,Z,Z,Z,Z,Z,Z,Z,Z,Z,Z,Z,Z,Z,Z,Z,Z,Z,Z,Z,Z,Z,Z,Z,Z,Z,Z,Z,Z,Z,Z,Z,Z,Z,Z,Z,Z,Z,Z,Z,Z,Z,Z,Z,Z,Z,Z,Z,Z,Z,Z]
abbrev q5_6 : Array Bool := #[Y,Y,Y,Y,Y,Y,Z,Z,Z,Z,Z,Z,Z,Z,Z,Z,Z,Z,Z,Z,Z,Z,Z,Z,Z,Z,Z,Z,Z,Z,Z,Z,Z,Z,Z,Z,Z,Z,Z,Z,Z,Z,Z,Z,Z,Z,Z,Z,Z,Z,Z,Z,Z,Z,Z]
abbrev q5_7 : Array Bool := #[Y,Y,Y,Y,Y,Y,Y,Z,Z,Z,Z,Z,Z,Z,Z,Z,Z,Z,Z,Z,Z,Z,Z,Z,Z,Z,Z,Z,Z,Z,Z,Z,Z,Z,Z,Z,Z,Z,Z,Z,Z,Z,Z,Z,Z,Z,Z,Z,Z,Z,Z,Z,Z,Z,Z]
abbrev q5_8 : Array Bool := #[Y,Y,Y,Y,Y,Y,Y,Y,Z,Z,Z,Z,Z,Z,Z,Z,Z,Z,Z,Z,Z,Z,Z,Z,Z,Z,Z,Z,Z,Z,Z,Z,Z,Z,Z,Z,Z,Z,Z,Z,Z,Z,Z,Z,Z,Z,Z,Z,Z,Z,Z,Z,Z,Z,Z]
abbrev q5_9 : Array Bool := #[Y,Y,Y,Y,Y,Y,Y,Y,Y,Z,Z,Z,Z,Z,Z,Z,Z,Z,Z,Z,Z,Z,Z,Z,Z,Z,Z,Z,Z,Z,Z,Z,Z,Z,Z,Z,Z,Z,Z,Z,Z,Z,Z,Z,Z,Z,Z,Z,Z,Z,Z,Z,Z,Z,Z]
abbrev q5_10 : Array Bool := #[Y,Y,Y,Y,Y,Y,Y,Y,Y,Z,Y,Z,Z,Z,Z,Z,Z,Z,Z,Z,Z,Z,Z,Z,Z,Z,Z,Z,Z,Z,Z,Z,Z,Z,Z,Z,Z,Z,Z,Z,Z,Z,Z,Z,Z,Z,Z,Z,Z,Z,Z,Z,Z,Z,Z]
abbrev q5_11 : Array Bool := #[Y,Y,Y,Y,Y,Y,Y,Y,Y,Z,Y,Y,Z,Z,Z,Z,Z,Z,Z,Z,Z,Z,Z,Z,Z,Z,Z,Z,Z,Z,Z,Z,Z,Z,Z,Z,Z,Z,Z,Z,Z,Z,Z,Z,Z,Z,Z,Z,Z,Z,Z,Z,Z,Z,Z]
abbrev q5_12 : Array Bool := #[Y,Y,Y,Y,Y,Y,Y,Y,Y,Y,Y,Y,Z,Z,Z,Z,Z,Z,Z,Z,Z,Z,Z,Z,Z,Z,Z,Z,Z,Z,Z,Z,Z,Z,Z,Z,Z,Z,Z,Z,Z,Z,Z,Z,Z,Z,Z,Z,Z,Z,Z,Z,Z,Z,Z]
abbrev q5_13 : Array Bool := #[Y,Y,Y,Y,Y,Y,Y,Y,Y,Y,Y,Y,Y,Z,Z,Z,Z,Z,Z,Z,Z,Z,Z,Z,Z,Z,Z,Z,Z,Z,Z,Z,Z,Z,Z,Z,Z,Z,Z,Z,Z,Z,Z,Z,Z,Z,Z,Z,Z,Z,Z,Z,Z,Z,Z]
abbrev q5_14 : Array Bool := #[Y,Y,Y,Y,Y,Y,Y,Y,Y,Y,Y,Y,Y,Y,Z,Z,Z,Z,Z,Z,Z,Z,Z,Z,Z,Z,Z,Z,Z,Z,Z,Z,Z,Z,Z,Z,Z,Z,Z,Z,Z,Z,Z,Z,Z,Z,Z,Z,Z,Z,Z,Z,Z,Z,Z]
abbrev q5_15 : Array Bool := #[Y,Y,Y,Y,Y,Y,Y,Y,Y,Y,Y,Y,Y,Y,Y,Z,Z,Z,Z,Z,Z,Z,Z,Z,Z,Z,Z,Z,Z,Z,Z,Z,Z,Z,Z,Z,Z,Z,Z,Z,Z,Z,Z,Z,Z,Z,Z,Z,Z,Z,Z,Z,Z,Z,Z]
abbrev q5_16 : Array Bool := #[Y,Y,Y,Y,Y,Y,Y,Y,Y,Y,Y,Y,Y,Y,Y,Y,Z,Z,Z,Z,Z,Z,Z,Z,Z,Z,Z,Z,Z,Z,Z,Z,Z,Z,Z,Z,Z,Z,Z,Z,Z,Z,Z,Z,Z,Z,Z,Z,Z,Z,Z,Z,Z,Z,Z]
abbrev q5_17 : Array Bool := #[Y,Y,Y,Y,Y,Y,Y,Y,Y,Y,Y,Y,Y,Y,Y,Y,Y,Z,Z,Z,Z,Z,Z,Z,Z,Z,Z,Z,Z,Z,Z,Z,Z,Z,Z,Z,Z,Z,Z,Z,Z,Z,Z,Z,Z,Z,Z,Z,Z,Z,Z,Z,Z,Z,Z]
abbrev q5_18 : Array Bool := #[Y,Y,Y,Y,Y,Y,Y,Y,Y,Y,Y,Y,Y,Y,Y,Y,Y,Y,Z,Z,Z,Z,Z,Z,Z,Z,Z,Z,Z,Z,Z,Z,Z,Z,Z,Z,Z,Z,Z,Z,Z,Z,Z,Z,Z,Z,Z,Z,Z,Z,Z,Z,Z,Z,Z]
abbrev q5_19 : Array Bool := #[Y,Y,Y,Y,Y,Y,Y,Y,Y,Y,Y,Y,Y,Y,Y,Y,Y,Y,Y,Z,Z,Z,Z,Z,Z,Z,Z,Z,Z,Z,Z,Z,Z,Z,Z,Z,Z,Z,Z,Z,Z,Z,Z,Z,Z,Z,Z,Z,Z,Z,Z,Z,Z,Z,Z]
abbrev q5_20 : Array Bool := #[Y,Y,Y,Y,Y,Y,Y,Y,Y,Y,Y,Y,Y,Y,Y,Y,Y,Y,Y,Y,Z,Z,Z,Z,Z,Z,Z,Z,Z,Z,Z,Z,Z,Z,Z,Z,Z,Z,Z,Z,Z,Z,Z,Z,Z,Z,Z,Z,Z,Z,Z,Z,Z,Z,Z]
abbrev q5_21 : Array Bool := #[Y,Y,Y,Y,Y,Y,Y,Y,Y,Y,Y,Y,Y,Y,Y,Y,Y,Y,Y,Y,Y,Z,Z,Z,Z,Z,Z,Z,Z,Z,Z,Z,Z,Z,Z,Z,Z,Z,Z,Z,Z,Z,Z,Z,Z,Z,Z,Z,Z,Z,Z,Z,Z,Z,Z]
abbrev q5_22 : Array Bool := #[Y,Y,Y,Y,Y,Y,Y,Y,Y,Y,Y,Y,Y,Y,Y,Y,Y,Y,Y,Y,Y,Y,Y,Y,Y,Y,Z,Z,Z,Z,Z,Z,Z,Z,Z,Z,Z,Z,Z,Z,Z,Z,Z,Z,Z,Z,Z,Z,Z,Z,Z,Z,Z,Z,Z]
abbrev q5_23 : Array Bool := #[Y,Y,Y,Y,Y,Y,Y,Y,Y,Y,Y,Y,Y,Y,Y,Y,Y,Y,Y,Y,Y,Y,Y,Y,Y,Y,Y,Z,Z,Z,Z,Z,Z,Z,Z,Z,Z,Z,Z,Z,Z,Z,Z,Z,Z,Z,Z,Z,Z,Z,Z,Z,Z,Z,Z]
abbrev q5_24 : Array Bool := #[Y,Y,Y,Y,Y,Y,Y,Y,Y,Y,Y,Y,Y,Y,Y,Y,Y,Y,Y,Y,Y,Y,Y,Y,Y,Y,Y,Y,Z,Z,Z,Z,Z,Z,Z,Z,Z,Z,Z,Z,Z,Z,Z,Z,Z,Z,Z,Z,Z,Z,Z,Z,Z,Z,Z]
abbrev q5_25 : Array Bool := #[Y,Y,Y,Y,Y,Y,Y,Y,Y,Y,Y,Y,Y,Y,Y,Y,Y,Y,Y,Y,Y,Y,Y,Y,Y,Y,Y,Y,Y,Z,Z,Z,Z,Z,Z,Z,Z,Z,Z,Z,Z,Z,Z,Z,Z,Z,Z,Z,Z,Z,Z,Z,Z,Z,Z]
abbrev q5_26 : Array Bool := #[Y,Y,Y,Y,Y,Y,Y,Y,Y,Y,Y,Y,Y,Y,Y,Y,Y,Y,Y,Y,Y,Y,Y,Y,Y,Y,Y,Y,Y,Y,Z,Z,Z,Z,Z,Z,Z,Z,Z,Z,Z,Z,Z,Z,Z,Z,Z,Z,Z,Z,Z,Z,Z,Z,Z]
abbrev q5_27 : Array Bool := #[Y,Y,Y,Y,Y,Y,Y,Y,Y,Y,Y,Y,Y,Y,Y,Y,Y,Y,Y,Y,Y,Y,Y,Y,Y,Y,Y,Y,Y,Y,Y,Z,Z,Z,Z,Z,Z,Z,Z,Z,Z,Z,Z,Z,Z,Z,Z,Z,Z,Z,Z,Z,Z,Z,Z]
abbrev q5_28 : Array Bool := #[Y,Y,Y,Y,Y,Y,Y,Y,Y,Y,Y,Y,Y,Y,Y,Y,Y,Y,Y,Y,Y,Y,Y,Y,Y,Y,Y,Y,Y,Y,Y,Y,Z,Z,Z,Z,Z,Z,Z,Z,Z,Z,Z,Z,Z,Z,Z,Z,Z,Z,Z,Z,Z,Z,Z]
abbrev q5_29 : Array Bool := #[Y,Y,Y,Y,Y,Y,Y,Y,Y,Y,Y,Y,Y,Y,Y,Y,Y,Y,Y,Y,Y,Y,Y,Y,Y,Y,Y,Y,Y,Y,Y,Y,Y,Z,Z,Z,Z,Z,Z,Z,Z,Z,Z,Z,Z,Z,Z,Z,Z,Z,Z,Z,Z,Z,Z]
abbrev q5_30 : Array Bool := #[Y,Y,Y,Y,Y,Y,Y,Y,Y,Y,Y,Y,Y,Y,Y,Y,Y,Y,Y,Y,Y,Y,Y,Y,Y,Y,Y,Y,Y,Y,Y,Y,Y,Y,Z,Z,Z,Z,Z,Z,Z,Z,Z,Z,Z,Z,Z,Z,Z,Z,Z,Z,Z,Z,Z]
abbrev q5_31 : Array Bool := #[Y,Y,Y,Y,Y,Y,Y,Y,Y,Y,Y,Y,Y,Y,Y,Y,Y,Y,Y,Y,Y,Y,Y,Y,Y,Y,Y,Y,Y,Y,Y,Y,Y,Y,Y,Z,Z,Z,Z,Z,Z,Z,Z,Z,Z,Z,Z,Z,Z,Z,Z,Z,Z,Z,Z]
abbrev q5_32 : Array Bool := #[Y,Y,Y,Y,Y,Y,Y,Y,Y,Y,Y,Y,Y,Y,Y,Y,Y,Y,Y,Y,Y,Y,Y,Y,Y,Y,Y,Y,Y,Y,Y,Y,Y,Y,Y,Z,Z,Z,Z,Y,Z,Z,Z,Z,Z,Z,Z,Z,Z,Z,Z,Z,Z,Z,Z]
abbrev q5_33 : Array Bool := #[Y,Y,Y,Y,Y,Y,Y,Y,Y,Y,Y,Y,Y,Y,Y,Y,Y,Y,Y,Y,Y,Y,Y,Y,Y,Y,Y,Y,Y,Y,Y,Y,Y,Y,Y,Y,Z,Z,Z,Y,Z,Z,Z,Z,Z,Z,Z,Z,Z,Z,Z,Z,Z,Z,Z]
abbrev q5_34 : Array Bool := #[Y,Y,Y,Y,Y,Y,Y,Y,Y,Y,Y,Y,Y,Y,Y,Y,Y,Y,Y,Y,Y,Y,Y,Y,Y,Y,Y,Y,Y,Y,Y,Y,Y,Y,Y,Y,Y,Z,Z,Y,Z,Z,Z,Z,Z,Z,Z,Z,Z,Z,Z,Z,Z,Z,Z]
abbrev q5_35 : Array Bool := #[Y,Y,Y,Y,Y,Y,Y,Y,Y,Y,Y,Y,Y,Y,Y,Y,Y,Y,Y,Y,Y,Y,Y,Y,Y,Y,Y,Y,Y,Y,Y,Y,Y,Y,Y,Y,Y,Y,Z,Y,Z,Z,Z,Z,Z,Z,Z,Z,Z,Z,Z,Z,Z,Z,Z]
abbrev q5_36 : Array Bool := #[Y,Y,Y,Y,Y,Y,Y,Y,Y,Y,Y,Y,Y,Y,Y,Y,Y,Y,Y,Y,Y,Y,Y,Y,Y,Y,Y,Y,Y,Y,Y,Y,Y,Y,Y,Y,Y,Y,Y,Y,Z,Z,Z,Z,Z,Z,Z,Z,Z,Z,Z,Z,Z,Z,Z]
abbrev q5_37 : Array Bool := #[Y,Y,Y,Y,Y,Y,Y,Y,Y,Y,Y,Y,Y,Y,Y,Y,Y,Y,Y,Y,Y,Y,Y,Y,Y,Y,Y,Y,Y,Y,Y,Y,Y,Y,Y,Y,Y,Y,Y,Y,Y,Z,Z,Z,Z,Z,Z,Z,Z,Z,Z,Z,Z,Z,Z]
abbrev q5_38 : Array Bool := #[Y,Y,Y,Y,Y,Y,Y,Y,Y,Y,Y,Y,Y,Y,Y,Y,Y,Y,Y,Y,Y,Y,Y,Y,Y,Y,Y,Y,Y,Y,Y,Y,Y,Y,Y,Y,Y,Y,Y,Y,Y,Y,Z,Z,Z,Z,Z,Z,Z,Z,Z,Z,Z,Z,Z]
abbrev q5_39 : Array Bool := #[Y,Y,Y,Y,Y,Y,Y,Y,Y,Y,Y,Y,Y,Y,Y,Y,Y,Y,Y,Y,Y,Y,Y,Y,Y,Y,Y,Y,Y,Y,Y,Y,Y,Y,Y,Y,Y,Y,Y,Y,Y,Y,Y,Z,Z,Z,Z,Z,Z,Z,Z,Z,Z,Z,Z]
abbrev q5_40 : Array Bool := #[Y,Y,Y,Y,Y,Y,Y,Y,Y,Y,Y,Y,Y,Y,Y,Y,Y,Y,Y,Y,Y,Y,Y,Y,Y,Y,Y,Y,Y,Y,Y,Y,Y,Y,Y,Y,Y,Y,Y,Y,Y,Y,Y,Y,Z,Z,Z,Z,Z,Z,Z,Z,Z,Z,Z]
abbrev q5_41 : Array Bool := #[Y,Y,Y,Y,Y,Y,Y,Y,Y,Y,Y,Y,Y,Y,Y,Y,Y,Y,Y,Y,Y,Y,Y,Y,Y,Y,Y,Y,Y,Y,Y,Y,Y,Y,Y,Y,Y,Y,Y,Y,Y,Y,Y,Y,Y,Z,Z,Z,Z,Z,Z,Z,Z,Z,Z]
abbrev q5_42 : Array Bool := #[Y,Y,Y,Y,Y,Y,Y,Y,Y,Y,Y,Y,Y,Y,Y,Y,Y,Y,Y,Y,Y,Y,Y,Y,Y,Y,Y,Y,Y,Y,Y,Y,Y,Y,Y,Y,Y,Y,Y,Y,Y,Y,Y,Y,Y,Y,Z,Z,Z,Z,Z,Z,Z,Z,Z]
abbrev q5_43 : Array Bool := #[Y,Y,Y,Y,Y,Y,Y,Y,Y,Y,Y,Y,Y,Y,Y,Y,Y,Y,Y,Y,Y,Y,Y,Y,Y,Y,Y,Y,Y,Y,Y,Y,Y,Y,Y,Y,Y,Y,Y,Y,Y,Y,Y,Y,Y,Y,Y,Z,Z,Z,Z,Z,Z,Z,Z]
abbrev q5_44 : Array Bool := #[Y,Y,Y,Y,Y,Y,Y,Y,Y,Y,Y,Y,Y,Y,Y,Y,Y,Y,Y,Y,Y,Y,Y,Y,Y,Y,Y,Y,Y,Y,Y,Y,Y,Y,Y,Y,Y,Y,Y,Y,Y,Y,Y,Y,Y,Y,Y,Z,Z,Z,Z,Y,Z,Z,Z]
abbrev q5_45 : Array Bool := #[Y,Y,Y,Y,Y,Y,Y,Y,Y,Y,Y,Y,Y,Y,Y,Y,Y,Y,Y,Y,Y,Y,Y,Y,Y,Y,Y,Y,Y,Y,Y,Y,Y,Y,Y,Y,Y,Y,Y,Y,Y,Y,Y,Y,Y,Y,Y,Y,Z,Z,Z,Y,Z,Z,Z]
abbrev q5_46 : Array Bool := #[Y,Y,Y,Y,Y,Y,Y,Y,Y,Y,Y,Y,Y,Y,Y,Y,Y,Y,Y,Y,Y,Y,Y,Y,Y,Y,Y,Y,Y,Y,Y,Y,Y,Y,Y,Y,Y,Y,Y,Y,Y,Y,Y,Y,Y,Y,Y,Y,Y,Z,Z,Y,Z,Z,Z]
abbrev q5_47 : Array Bool := #[Y,Y,Y,Y,Y,Y,Y,Y,Y,Y,Y,Y,Y,Y,Y,Y,Y,Y,Y,Y,Y,Y,Y,Y,Y,Y,Y,Y,Y,Y,Y,Y,Y,Y,Y,Y,Y,Y,Y,Y,Y,Y,Y,Y,Y,Y,Y,Y,Y,Y,Z,Y,Z,Z,Z]
abbrev q5_48 : Array Bool := #[Y,Y,Y,Y,Y,Y,Y,Y,Y,Y,Y,Y,Y,Y,Y,Y,Y,Y,Y,Y,Y,Y,Y,Y,Y,Y,Y,Y,Y,Y,Y,Y,Y,Y,Y,Y,Y,Y,Y,Y,Y,Y,Y,Y,Y,Y,Y,Y,Y,Y,Y,Y,Z,Z,Z]
abbrev q5_49 : Array Bool := #[Y,Y,Y,Y,Y,Y,Y,Y,Y,Y,Y,Y,Y,Y,Y,Y,Y,Y,Y,Y,Y,Y,Y,Y,Y,Y,Y,Y,Y,Y,Y,Y,Y,Y,Y,Y,Y,Y,Y,Y,Y,Y,Y,Y,Y,Y,Y,Y,Y,Y,Y,Y,Y,Z,Z]
abbrev q5_50 : Array Bool := #[Y,Y,Y,Y,Y,Y,Y,Y,Y,Y,Y,Y,Y,Y,Y,Y,Y,Y,Y,Y,Y,Y,Y,Y,Y,Y,Y,Y,Y,Y,Y,Y,Y,Y,Y,Y,Y,Y,Y,Y,Y,Y,Y,Y,Y,Y,Y,Y,Y,Y,Y,Y,Y,Y,Z]
abbrev q5_51 : Array Bool := #[Y,Y,Y,Y,Y,Y,Y,Y,Y,Y,Y,Y,Y,Y,Y,Y,Y,Y,Y,Y,Y,Y,Y,Y,Y,Y,Y,Y,Y,Y,Y,Y,Y,Y,Y,Y,Y,Y,Y,Y,Y,Y,Y,Y,Y,Y,Y,Y,Y,Y,Y,Y,Y,Y,Y]
abbrev q5_52 : Array Bool := #[Z,Z,Z,Z,Z,Z,Z,Z,Z,Z,Z,Z,Z,Z,Z,Z,Z,Z,Z,Z,Z,Z,Z,Z,Z,Z,Z,Z,Z,Z,Z,Z,Z,Z,Z,Z,Z,Z,Z,Z,Z,Z]
abbrev q5_53 : Array Bool := #[Y,Z,Z,Z,Z,Z,Z,Z,Z,Z,Z,Z,Z,Z,Z,Z,Z,Z,Z,Z,Z,Z,Z,Z,Z,Z,Z,Z,Z,Z,Z,Z,Z,Z,Z,Z,Z,Z,Z,Z,Z,Z]
abbrev q5_54 : Array Bool := #[Y,Y,Z,Z,Z,Z,Z,Z,Z,Z,Z,Z,Z,Z,Z,Z,Z,Z,Z,Z,Z,Z,Z,Z,Z,Z,Z,Z,Z,Z,Z,Z,Z,Z,Z,Z,Z,Z,Z,Z,Z,Z]
abbrev q5_55 : Array Bool := #[Y,Y,Y,Z,Z,Z,Z,Z,Z,Z,Z,Z,Z,Z,Z,Z,Z,Z,Z,Z,Z,Z,Z,Z,Z,Z,Z,Z,Z,Z,Z,Z,Z,Z,Z,Z,Z,Z,Z,Z,Z,Z]
abbrev q5_56 : Array Bool := #[Y,Y,Y,Y,Z,Z,Z,Z,Z,Z,Z,Z,Z,Z,Z,Z,Z,Z,Z,Z,Z,Z,Z,Z,Z,Z,Z,Z,Z,Z,Z,Z,Z,Z,Z,Z,Z,Z,Z,Z,Z,Z]
abbrev q5_57 : Array Bool := #[Y,Y,Y,Y,Y,Z,Z,Z,Z,Z,Z,Z,Z,Z,Z,Z,Z,Z,Z,Z,Z,Z,Z,Z,Z,Z,Z,Z,Z,Z,Z,Z,Z,Z,Z,Z,Z,Z,Z,Z,Z,Z]
abbrev q5_58 : Array Bool := #[Y,Y,Y,Y,Y,Y,Z,Z,Z,Z,Z,Z,Z,Z,Z,Z,Z,Z,Z,Z,Z,Z,Z,Z,Z,Z,Z,Z,Z,Z,Z,Z,Z,Z,Z,Z,Z,Z,Z,Z,Z,Z]
abbrev q5_59 : Array Bool := #[Y,Y,Y,Y,Y,Y,Y,Y,Y,Y,Y,Y,Y,Y,Z,Z,Z,Z,Z,Z,Z,Z,Z,Z,Z,Z,Z,Z,Z,Z,Z,Z,Z,Z,Z,Z,Z,Z,Z,Z,Z,Z]
abbrev q5_60 : Array Bool := #[Y,Y,Y,Y,Y,Y,Y,Y,Y,Y,Y,Y,Y,Y,Y,Z,Z,Z,Z,Z,Z,Z,Z,Z,Z,Z,Z,Z,Z,Z,Z,Z,Z,Z,Z,Z,Z,Z,Z,Z,Z,Z]
abbrev q5_61 : Array Bool := #[Y,Y,Y,Y,Y,Y,Y,Y,Y,Y,Y,Y,Y,Y,Y,Y,Z,Z,Z,Z,Z,Z,Z,Z,Z,Z,Z,Z,Z,Z,Z,Z,Z,Z,Z,Z,Z,Z,Z,Z,Z,Z]
abbrev q5_62 : Array Bool := #[Y,Y,Y,Y,Y,Y,Y,Y,Y,Y,Y,Y,Y,Y,Y,Y,Y,Z,Z,Z,Z,Z,Z,Z,Z,Z,Z,Z,Z,Z,Z,Z,Z,Z,Z,Z,Z,Z,Z,Z,Z,Z]
abbrev q5_63 : Array Bool := #[Y,Y,Y,Y,Y,Y,Y,Y,Y,Y,Y,Y,Y,Y,Y,Y,Y,Y,Z,Z,Z,Z,Z,Z,Z,Z,Z,Z,Z,Z,Z,Z,Z,Z,Z,Z,Z,Z,Z,Z,Z,Z]
abbrev q5_64 : Array Bool := #[Y,Y,Y,Y,Y,Y,Y,Y,Y,Y,Y,Y,Y,Y,Y,Y,Y,Y,Y,Z,Z,Z,Z,Z,Z,Z,Z,Z,Z,Z,Z,Z,Z,Z,Z,Z,Z,Z,Z,Z,Z,Z]
abbrev q5_65 : Array Bool := #[Y,Y,Y,Y,Y,Y,Y,Y,Y,Y,Y,Y,Y,Y,Y,Y,Y,Y,Y,Y,Z,Z,Z,Z,Z,Z,Z,Z,Z,Z,Z,Z,Z,Z,Z,Z,Z,Z,Z,Z,Z,Z]
abbrev q5_66 : Array Bool := #[Y,Y,Y,Y,Y,Y,Y,Y,Y,Y,Y,Y,Y,Y,Y,Y,Y,Y,Y,Y,Y,Z,Z,Z,Z,Z,Z,Z,Z,Z,Z,Z,Z,Z,Z,Z,Z,Z,Z,Z,Z,Z]
abbrev q5_67 : Array Bool := #[Y,Y,Y,Y,Y,Y,Y,Y,Y,Y,Y,Y,Y,Y,Y,Y,Y,Y,Y,Y,Y,Y,Z,Z,Z,Z,Z,Z,Z,Z,Z,Z,Z,Z,Z,Z,Z,Z,Z,Z,Z,Z]
abbrev q5_68 : Array Bool := #[Y,Y,Y,Y,Y,Y,Y,Y,Y,Y,Y,Y,Y,Y,Y,Y,Y,Y,Y,Y,Y,Y,Y,Z,Z,Z,Z,Z,Z,Z,Z,Z,Z,Z,Z,Z,Z,Z,Z,Z,Z,Z]
abbrev q5_69 : Array Bool := #[Y,Y,Y,Y,Y,Y,Y,Y,Y,Y,Y,Y,Y,Y,Y,Y,Y,Y,Y,Y,Y,Y,Y,Y,Z,Z,Z,Z,Z,Z,Z,Z,Z,Z,Z,Z,Z,Z,Z,Z,Z,Z]
abbrev q5_70 : Array Bool := #[Y,Y,Y,Y,Y,Y,Y,Y,Y,Y,Y,Y,Y,Y,Y,Y,Y,Y,Y,Y,Y,Y,Y,Y,Y,Z,Z,Z,Z,Z,Z,Z,Z,Z,Z,Z,Z,Z,Z,Z,Z,Z]
abbrev q5_71 : Array Bool := #[Y,Y,Y,Y,Y,Y,Y,Y,Y,Y,Y,Y,Y,Y,Y,Y,Y,Y,Y,Y,Y,Y,Y,Y,Y,Y,Z,Z,Z,Z,Z,Z,Z,Z,Z,Z,Z,Z,Z,Z,Z,Z]
abbrev q5_72 : Array Bool := #[Y,Y,Y,Y,Y,Y,Y,Y,Y,Y,Y,Y,Y,Y,Y,Y,Y,Y,Y,Y,Y,Y,Y,Y,Y,Y,Y,Z,Z,Z,Z,Z,Z,Z,Z,Z,Z,Z,Z,Z,Z,Z]
abbrev q5_73 : Array Bool := #[Y,Y,Y,Y,Y,Y,Y,Y,Y,Y,Y,Y,Y,Y,Y,Y,Y,Y,Y,Y,Y,Y,Y,Y,Y,Y,Y,Y,Z,Z,Z,Z,Z,Z,Z,Z,Z,Z,Z,Z,Z,Z]
abbrev q5_74 : Array Bool := #[Y,Y,Y,Y,Y,Y,Y,Y,Y,Y,Y,Y,Y,Y,Y,Y,Y,Y,Y,Y,Y,Y,Y,Y,Y,Y,Y,Y,Y,Z,Z,Z,Z,Z,Z,Z,Z,Z,Z,Z,Z,Z]
abbrev q5_75 : Array Bool := #[Y,Y,Y,Y,Y,Y,Y,Y,Y,Y,Y,Y,Y,Y,Y,Y,Y,Y,Y,Y,Y,Y,Y,Y,Y,Y,Y,Y,Y,Y,Z,Z,Z,Z,Z,Z,Z,Z,Z,Z,Z,Z]
abbrev q5_76 : Array Bool := #[Y,Y,Y,Y,Y,Y,Y,Y,Y,Y,Y,Y,Y,Y,Y,Y,Y,Y,Y,Y,Y,Y,Y,Y,Y,Y,Y,Y,Y,Y,Y,Z,Z,Z,Z,Z,Z,Z,Z,Z,Z,Z]
abbrev q5_77 : Array Bool := #[Y,Y,Y,Y,Y,Y,Y,Y,Y,Y,Y,Y,Y,Y,Y,Y,Y,Y,Y,Y,Y,Y,Y,Y,Y,Y,Y,Y,Y,Y,Y,Y,Z,Z,Z,Z,Z,Z,Z,Z,Z,Z]
abbrev q5_78 : Array Bool := #[Y,Y,Y,Y,Y,Y,Y,Y,Y,Y,Y,Y,Y,Y,Y,Y,Y,Y,Y,Y,Y,Y,Y,Y,Y,Y,Y,Y,Y,Y,Y,Y,Y,Z,Z,Z,Z,Z,Z,Z,Z,Z]
abbrev q5_79 : Array Bool := #[Y,Y,Y,Y,Y,Y,Y,Y,Y,Y,Y,Y,Y,Y,Y,Y,Y,Y,Y,Y,Y,Y,Y,Y,Y,Y,Y,Y,Y,Y,Y,Y,Y,Y,Z,Z,Z,Z,Z,Z,Z,Z]
abbrev q5_80 : Array Bool := #[Y,Y,Y,Y,Y,Y,Y,Y,Y,Y,Y,Y,Y,Y,Y,Y,Y,Y,Y,Y,Y,Y,Y,Y,Y,Y,Y,Y,Y,Y,Y,Y,Y,Y,Y,Z,Z,Z,Z,Z,Z,Z]
abbrev q5_81 : Array Bool := #[Y,Y,Y,Y,Y,Y,Y,Y,Y,Y,Y,Y,Y,Y,Y,Y,Y,Y,Y,Y,Y,Y,Y,Y,Y,Y,Y,Y,Y,Y,Y,Y,Y,Y,Y,Y,Z,Z,Z,Z,Z,Z]
abbrev q5_82 : Array Bool := #[Y,Y,Y,Y,Y,Y,Y,Y,Y,Y,Y,Y,Y,Y,Y,Y,Y,Y,Y,Y,Y,Y,Y,Y,Y,Y,Y,Y,Y,Y,Y,Y,Y,Y,Y,Y,Y,Z,Z,Z,Z,Z]
abbrev q5_83 : Array Bool := #[Y,Y,Y,Y,Y,Y,Y,Y,Y,Y,Y,Y,Y,Y,Y,Y,Y,Y,Y,Y,Y,Y,Y,Y,Y,Y,Y,Y,Y,Y,Y,Y,Y,Y,Y,Y,Y,Y,Z,Z,Z,Z]
abbrev q5_84 : Array Bool := #[Y,Y,Y,Y,Y,Y,Y,Y,Y,Y,Y,Y,Y,Y,Y,Y,Y,Y,Y,Y,Y,Y,Y,Y,Y,Y,Y,Y,Y,Y,Y,Y,Y,Y,Y,Y,Y,Y,Y,Z,Z,Z]
abbrev q5_85 : Array Bool := #[Y,Y,Y,Y,Y,Y,Y,Y,Y,Y,Y,Y,Y,Y,Y,Y,Y,Y,Y,Y,Y,Y,Y,Y,Y,Y,Y,Y,Y,Y,Y,Y,Y,Y,Y,Y,Y,Y,Y,Y,Z,Z]
abbrev q5_86 : Array Bool := #[Y,Y,Y,Y,Y,Y,Y,Y,Y,Y,Y,Y,Y,Y,Y,Y,Y,Y,Y,Y,Y,Y,Y,Y,Y,Y,Y,Y,Y,Y,Y,Y,Y,Y,Y,Y,Y,Y,Y,Y,Y,Z]
abbrev q5_87 : Array Bool := #[Y,Y,Y,Y,Y,Y,Y,Y,Y,Y,Y,Y,Y,Y,Y,Y,Y,Y,Y,Y,Y,Y,Y,Y,Y,Y,Y,Y,Y,Y,Y,Y,Y,Y,Y,Y,Y,Y,Y,Y,Y,Y]
abbrev q5_88 : Array Bool := #[Y,Y,Y,Y,Y,Y,Z,Z,Z,Z,Y,Z,Z,Z,Z,Z,Z,Z,Z,Z,Z,Z,Z,Z,Z,Z,Z,Z,Z,Z,Z,Z,Z,Z,Z,Z,Z,Z,Z,Z,Z,Z]
abbrev q5_89 : Array Bool := #[Y,Y,Y,Y,Y,Y,Z,Z,Z,Z,Y,Y,Z,Z,Z,Z,Z,Z,Z,Z,Z,Z,Z,Z,Z,Z,Z,Z,Z,Z,Z,Z,Z,Z,Z,Z,Z,Z,Z,Z,Z,Z]
abbrev q5_90 : Array Bool := #[Y,Y,Y,Y,Y,Y,Z,Z,Z,Z,Y,Y,Y,Z,Z,Z,Z,Z,Z,Z,Z,Z,Z,Z,Z,Z,Z,Z,Z,Z,Z,Z,Z,Z,Z,Z,Z,Z,Z,Z,Z,Z]
abbrev q5_91 : Array Bool := #[Y,Y,Y,Y,Y,Y,Z,Z,Z,Z,Y,Y,Y,Y,Z,Z,Z,Z,Z,Z,Z,Z,Z,Z,Z,Z,Z,Z,Z,Z,Z,Z,Z,Z,Z,Z,Z,Z,Z,Z,Z,Z]
abbrev q5_92 : Array Bool := #[Y,Y,Y,Y,Y,Y,Y,Z,Z,Z,Y,Y,Y,Y,Z,Z,Z,Z,Z,Z,Z,Z,Z,Z,Z,Z,Z,Z,Z,Z,Z,Z,Z,Z,Z,Z,Z,Z,Z,Z,Z,Z]
abbrev q5_93 : Array Bool := #[Y,Y,Y,Y,Y,Y,Y,Y,Z,Z,Y,Y,Y,Y,Z,Z,Z,Z,Z,Z,Z,Z,Z,Z,Z,Z,Z,Z,Z,Z,Z,Z,Z,Z,Z,Z,Z,Z,Z,Z,Z,Z]
abbrev q5_94 : Array Bool := #[Y,Y,Y,Y,Y,Y,Y,Y,Y,Z,Y,Y,Y,Y,Z,Z,Z,Z,Z,Z,Z,Z,Z,Z,Z,Z,Z,Z,Z,Z,Z,Z,Z,Z,Z,Z,Z,Z,Z,Z,Z,Z]
abbrev q5_95 : Array Bool := #[Z,Z,Z,Z,Z,Z,Z,Z,Z,Z,Z,Z,Z,Z,Z,Z,Z,Z,Z,Z,Z,Z,Z,Z,Z,Z,Z,Z,Z,Z,Z,Z,Z,Z,Z,Z,Z,Z,Z]
abbrev q5_96 : Array Bool := #[Y,Z,Z,Z,Z,Z,Z,Z,Z,Z,Z,Z,Z,Z,Z,Z,Z,Z,Z,Z,Z,Z,Z,Z,Z,Z,Z,Z,Z,Z,Z,Z,Z,Z,Z,Z,Z,Z,Z]
abbrev q5_97 : Array Bool := #[Y,Y,Z,Z,Z,Z,Z,Z,Z,Z,Z,Z,Z,Z,Z,Z,Z,Z,Z,Z,Z,Z,Z,Z,Z,Z,Z,Z,Z,Z,Z,Z,Z,Z,Z,Z,Z,Z,Z]
abbrev q5_98 : Array Bool := #[Y,Y,Y,Z,Z,Z,Z,Z,Z,Z,Z,Z,Z,Z,Z,Z,Z,Z,Z,Z,Z,Z,Z,Z,Z,Z,Z,Z,Z,Z,Z,Z,Z,Z,Z,Z,Z,Z,Z]
abbrev q5_99 : Array Bool := #[Y,Y,Y,Y,Z,Z,Z,Z,Z,Z,Z,Z,Z,Z,Z,Z,Z,Z,Z,Z,Z,Z,Z,Z,Z,Z,Z,Z,Z,Z,Z,Z,Z,Z,Z,Z,Z,Z,Z]
abbrev q5_100 : Array Bool := #[Y,Y,Y,Y,Z,Z,Z,Z,Y,Z,Z,Z,Z,Z,Z,Z,Z,Z,Z,Z,Z,Z,Z,Z,Z,Z,Z,Z,Z,Z,Z,Z,Z,Z,Z,Z,Z,Z,Z]
abbrev q5_101 : Array Bool := #[Y,Y,Y,Y,Z,Z,Z,Z,Y,Y,Z,Z,Z,Z,Z,Z,Z,Z,Z,Z,Z,Z,Z,Z,Z,Z,Z,Z,Z,Z,Z,Z,Z,Z,Z,Z,Z,Z,Z]
abbrev q5_102 : Array Bool := #[Y,Y,Y,Y,Z,Z,Z,Z,Y,Y,Y,Z,Z,Z,Z,Z,Z,Z,Z,Z,Z,Z,Z,Z,Z,Z,Z,Z,Z,Z,Z,Z,Z,Z,Z,Z,Z,Z,Z]
abbrev q5_103 : Array Bool := #[Y,Y,Y,Y,Z,Z,Z,Z,Y,Y,Y,Y,Z,Z,Z,Z,Z,Z,Z,Z,Z,Z,Z,Z,Z,Z,Z,Z,Z,Z,Z,Z,Z,Z,Z,Z,Z,Z,Z]
abbrev q5_104 : Array Bool := #[Y,Y,Y,Y,Y,Z,Z,Z,Y,Y,Y,Y,Z,Z,Z,Z,Z,Z,Z,Z,Z,Z,Z,Z,Z,Z,Z,Z,Z,Z,Z,Z,Z,Z,Z,Z,Z,Z,Z]
abbrev q5_105 : Array Bool := #[Y,Y,Y,Y,Y,Y,Z,Z,Y,Y,Y,Y,Z,Z,Z,Z,Z,Z,Z,Z,Z,Z,Z,Z,Z,Z,Z,Z,Z,Z,Z,Z,Z,Z,Z,Z,Z,Z,Z]
abbrev q5_106 : Array Bool := #[Y,Y,Y,Y,Y,Y,Y,Z,Y,Y,Y,Y,Z,Z,Z,Z,Z,Z,Z,Z,Z,Z,Z,Z,Z,Z,Z,Z,Z,Z,Z,Z,Z,Z,Z,Z,Z,Z,Z]
abbrev q5_107 : Array Bool := #[Y,Y,Y,Y,Y,Y,Y,Y,Y,Y,Y,Y,Z,Z,Z,Z,Z,Z,Z,Z,Z,Z,Z,Z,Z,Z,Z,Z,Z,Z,Z,Z,Z,Z,Z,Z,Z,Z,Z]
abbrev q5_108 : Array Bool := #[Y,Y,Y,Y,Y,Y,Y,Y,Y,Y,Y,Y,Y,Z,Z,Z,Z,Z,Z,Z,Z,Z,Z,Z,Z,Z,Z,Z,Z,Z,Z,Z,Z,Z,Z,Z,Z,Z,Z]
abbrev q5_109 : Array Bool := #[Y,Y,Y,Y,Y,Y,Y,Y,Y,Y,Y,Y,Y,Y,Z,Z,Z,Z,Z,Z,Z,Z,Z,Z,Z,Z,Z,Z,Z,Z,Z,Z,Z,Z,Z,Z,Z,Z,Z]
abbrev q5_110 : Array Bool := #[Y,Y,Y,Y,Y,Y,Y,Y,Y,Y,Y,Y,Y,Y,Y,Z,Z,Z,Z,Z,Z,Z,Z,Z,Z,Z,Z,Z,Z,Z,Z,Z,Z,Z,Z,Z,Z,Z,Z]
abbrev q5_111 : Array Bool := #[Y,Y,Y,Y,Y,Y,Y,Y,Y,Y,Y,Y,Y,Y,Y,Y,Z,Z,Z,Z,Z,Z,Z,Z,Z,Z,Z,Z,Z,Z,Z,Z,Z,Z,Z,Z,Z,Z,Z]
abbrev q5_112 : Array Bool := #[Y,Y,Y,Y,Y,Y,Y,Y,Y,Y,Y,Y,Y,Y,Y,Y,Y,Z,Z,Z,Z,Z,Z,Z,Z,Z,Z,Z,Z,Z,Z,Z,Z,Z,Z,Z,Z,Z,Z]
abbrev q5_113 : Array Bool := #[Y,Y,Y,Y,Y,Y,Y,Y,Y,Y,Y,Y,Y,Y,Y,Y,Y,Y,Z,Z,Z,Z,Z,Z,Z,Z,Z,Z,Z,Z,Z,Z,Z,Z,Z,Z,Z,Z,Z]
abbrev q5_114 : Array Bool := #[Y,Y,Y,Y,Y,Y,Y,Y,Y,Y,Y,Y,Y,Y,Y,Y,Y,Y,Y,Z,Z,Z,Z,Z,Z,Z,Z,Z,Z,Z,Z,Z,Z,Z,Z,Z,Z,Z,Z]
abbrev q5_115 : Array Bool := #[Y,Y,Y,Y,Y,Y,Y,Y,Y,Y,Y,Y,Y,Y,Y,Y,Y,Y,Y,Z,Y,Z,Z,Z,Z,Z,Z,Z,Z,Z,Z,Z,Z,Z,Z,Z,Z,Z,Z]
abbrev q5_116 : Array Bool := #[Y,Y,Y,Y,Y,Y,Y,Y,Y,Y,Y,Y,Y,Y,Y,Y,Y,Y,Y,Y,Y,Z,Z,Z,Z,Z,Z,Z,Z,Z,Z,Z,Z,Z,Z,Z,Z,Z,Z]
abbrev q5_117 : Array Bool := #[Y,Y,Y,Y,Y,Y,Y,Y,Y,Y,Y,Y,Y,Y,Y,Y,Y,Y,Y,Y,Y,Y,Z,Z,Z,Z,Z,Z,Z,Z,Z,Z,Z,Z,Z,Z,Z,Z,Z]
abbrev q5_118 : Array Bool := #[Y,Y,Y,Y,Y,Y,Y,Y,Y,Y,Y,Y,Y,Y,Y,Y,Y,Y,Y,Y,Y,Y,Y,Z,Z,Z,Z,Z,Z,Z,Z,Z,Z,Z,Z,Z,Z,Z,Z]
abbrev q5_119 : Array Bool := #[Y,Y,Y,Y,Y,Y,Y,Y,Y,Y,Y,Y,Y,Y,Y,Y,Y,Y,Y,Y,Y,Y,Y,Y,Z,Z,Z,Z,Z,Z,Z,Z,Z,Z,Z,Z,Z,Z,Z]
abbrev q5_120 : Array Bool := #[Y,Y,Y,Y,Y,Y,Y,Y,Y,Y,Y,Y,Y,Y,Y,Y,Y,Y,Y,Y,Y,Y,Y,Y,Y,Z,Z,Z,Z,Z,Z,Z,Z,Z,Z,Z,Z,Z,Z]
abbrev q5_121 : Array Bool := #[Y,Y,Y,Y,Y,Y,Y,Y,Y,Y,Y,Y,Y,Y,Y,Y,Y,Y,Y,Y,Y,Y,Y,Y,Y,Y,Z,Z,Z,Z,Z,Z,Z,Z,Z,Z,Z,Z,Z]
abbrev q5_122 : Array Bool := #[Y,Y,Y,Y,Y,Y,Y,Y,Y,Y,Y,Y,Y,Y,Y,Y,Y,Y,Y,Y,Y,Y,Y,Y,Y,Y,Y,Z,Z,Z,Z,Z,Z,Z,Z,Z,Z,Z,Z]
abbrev q5_123 : Array Bool := #[Y,Y,Y,Y,Y,Y,Y,Y,Y,Y,Y,Y,Y,Y,Y,Y,Y,Y,Y,Y,Y,Y,Y,Y,Y,Y,Y,Y,Y,Y,Y,Y,Y,Y,Y,Z,Z,Z,Z]
abbrev q5_124 : Array Bool := #[Y,Y,Y,Y,Y,Y,Y,Y,Y,Y,Y,Y,Y,Y,Y,Y,Y,Y,Y,Y,Y,Y,Y,Y,Y,Y,Y,Y,Y,Y,Y,Y,Y,Y,Y,Y,Z,Z,Z]
abbrev q5_125 : Array Bool := #[Y,Y,Y,Y,Y,Y,Y,Y,Y,Y,Y,Y,Y,Y,Y,Y,Y,Y,Y,Y,Y,Y,Y,Y,Y,Y,Y,Y,Y,Y,Y,Y,Y,Y,Y,Y,Y,Z,Z]
abbrev q5_126 : Array Bool := #[Y,Y,Y,Y,Y,Y,Y,Y,Y,Y,Y,Y,Y,Y,Y,Y,Y,Y,Y,Y,Y,Y,Y,Y,Y,Y,Y,Y,Y,Y,Y,Y,Y,Y,Y,Y,Y,Y,Z]
abbrev q5_127 : Array Bool := #[Y,Y,Y,Y,Y,Y,Y,Y,Y,Y,Y,Y,Y,Y,Y,Y,Y,Y,Y,Y,Y,Y,Y,Y,Y,Y,Y,Y,Y,Y,Y,Y,Y,Y,Y,Y,Y,Y,Y]
mutual
def mummerlaw11_BindsGreatest.l0 : Nat → List (S24) → ByteArray → ByteArray → List Int → Int → Int → Bool → Bool → Int → Option (Bool)
 | 0, _, _, _, _, _, _, _, _, _ => none
 | k + 1, x0, x1, x2, x7, x9, x10, x11, x12, x13 => if x13 < (x7.length : Int) then (if 0 ≤ x13 then (if (rd x7 x13) < 0 then (some false) else (if (rd x7 x13) ≥ (x0.length : Int) then (some false) else (if x13 > 0 then (if 0 ≤ (wrap64 (x13 - 1)) then (if (wrap64 (x13 - 1)) < (x7.length : Int) then (if (rd x7 x13) ≤ (rd x7 (wrap64 (x13 - 1))) then (some false) else (if 0 ≤ (rd x7 x13) then (if (rd x7 x13) < (x0.length : Int) then (if ((rd_T24 x0 (rd x7 x13)).f0).toList = x1.toList then ((mummerlaw11_sub.f k ((rd_T24 x0 (rd x7 x13)).f1) x2).bind fun t406 => (mummerlaw11_BindsGreatest.j1 k x0 x1 x2 x7 x9 x10 x11 x12 x13 (!t406))) else (some false)) else (none)) else (none))) else (none)) else (none)) else (if 0 ≤ (rd x7 x13) then (if (rd x7 x13) < (x0.length : Int) then (if ((rd_T24 x0 (rd x7 x13)).f0).toList = x1.toList then ((mummerlaw11_sub.f k ((rd_T24 x0 (rd x7 x13)).f1) x2).bind fun t411 => (mummerlaw11_BindsGreatest.j1 k x0 x1 x2 x7 x9 x10 x11 x12 x13 (!t411))) else (some false)) else (none)) else (none))))) else (none)) else (mummerlaw11_BindsGreatest.l2 k x0 x1 x2 x7 x9 x10 x11 x12 0 0)
def mummerlaw11_BindsGreatest.j1 : Nat → List (S24) → ByteArray → ByteArray → List Int → Int → Int → Bool → Bool → Int → Bool → Option (Bool)
 | 0, _, _, _, _, _, _, _, _, _, _ => none
 | k + 1, x0, x1, x2, x7, x9, x10, x11, x12, x13, x106 => if x106 = true then (some false) else (if x11 = true then (mummerlaw11_BindsGreatest.j2 k x0 x1 x2 x7 x9 x10 true x12 x13) else (if 0 ≤ x13 then (if x13 < (x7.length : Int) then (mummerlaw11_BindsGreatest.j2 k x0 x1 x2 x7 x9 x10 ((rd x7 x13) == x9) x12 x13) else (none)) else (none)))
def mummerlaw11_BindsGreatest.j2 : Nat → List (S24) → ByteArray → ByteArray → List Int → Int → Int → Bool → Bool → Int → Option (Bool)
 | 0, _, _, _, _, _, _, _, _, _ => none
 | k + 1, x0, x1, x2, x7, x9, x10, x11, x12, x13 => mummerlaw11_BindsGreatest.l1 k x0 x1 x2 x7 x9 x10 x11 x12 x13 0
def mummerlaw11_BindsGreatest.l1 : Nat → List (S24) → ByteArray → ByteArray → List Int → Int → Int → Bool → Bool → Int → Int → Option (Bool)
 | 0, _, _, _, _, _, _, _, _, _, _ => none
 | k + 1, x0, x1, x2, x7, x9, x10, x11, x12, x13, x14 => if x14 < x13 then (if x12 = true then (mummerlaw11_BindsGreatest.l1 k x0 x1 x2 x7 x9 x10 x11 true x13 (wrap64 (x14 + 1))) else (if 0 ≤ x13 then (if x13 < (x7.length : Int) then (if 0 ≤ (rd x7 x13) then (if (rd x7 x13) < (x0.length : Int) then (if 0 ≤ x14 then (if x14 < (x7.length : Int) then (if 0 ≤ (rd x7 x14) then (if (rd x7 x14) < (x0.length : Int) then ((mummerlaw11_sub.f k ((rd_T24 x0 (rd x7 x13)).f1) ((rd_T24 x0 (rd x7 x14)).f1)).bind fun t417 => (if t417 = true then (mummerlaw11_BindsGreatest.l1 k x0 x1 x2 x7 x9 x10 x11 false x13 (wrap64 (x14 + 1))) else ((mummerlaw11_sub.f k ((rd_T24 x0 (rd x7 x14)).f1) ((rd_T24 x0 (rd x7 x13)).f1)).bind fun t422 => (mummerlaw11_BindsGreatest.l1 k x0 x1 x2 x7 x9 x10 x11 (!t422) x13 (wrap64 (x14 + 1)))))) else (none)) else (none)) else (none)) else (none)) else (none)) else (none)) else (none)) else (none))) else (mummerlaw11_BindsGreatest.l0 k x0 x1 x2 x7 x9 x10 x11 x12 (wrap64 (x13 + 1)))
def mummerlaw11_BindsGreatest.l2 : Nat → List (S24) → ByteArray → ByteArray → List Int → Int → Int → Bool → Bool → Int → Int → Option (Bool)
 | 0, _, _, _, _, _, _, _, _, _, _ => none
 | k + 1, x0, x1, x2, x7, x9, x10, x11, x12, x15, x16 => if x16 < (x0.length : Int) then (if 0 ≤ x16 then (if ((rd_T24 x0 x16).f0).toList = x1.toList then ((mummerlaw11_sub.f k ((rd_T24 x0 x16).f1) x2).bind fun t425 => (if t425 = true then (mummerlaw11_BindsGreatest.l2 k x0 x1 x2 x7 x9 x10 x11 x12 (wrap64 (x15 + 1)) (wrap64 (x16 + 1))) else (mummerlaw11_BindsGreatest.l2 k x0 x1 x2 x7 x9 x10 x11 x12 x15 (wrap64 (x16 + 1))))) else (mummerlaw11_BindsGreatest.l2 k x0 x1 x2 x7 x9 x10 x11 x12 x15 (wrap64 (x16 + 1)))) else (none)) else (if x15 = (x7.length : Int) then (if x10 = 0 then (if x11 = true then (mummerlaw11_BindsGreatest.l3 k x0 x7 x9 0) else (some false)) else (if x10 = 11 then (if x12 = true then (if x9 = 0 then ((mummerlaw11_awake.f k).bind fun t435 => (some t435)) else (some false)) else (some false)) else (if x10 = 10 then (if (x7.length : Int) = 0 then (if x9 = 0 then ((mummerlaw11_awake.f k).bind fun t436 => (some t436)) else (some false)) else (some false)) else (some false)))) else (some false))
def mummerlaw11_BindsGreatest.l3 : Nat → List (S24) → List Int → Int → Int → Option (Bool)
 | 0, _, _, _, _ => none
 | k + 1, x0, x7, x9, x17 => if x17 < (x7.length : Int) then (if 0 ≤ x17 then (if 0 ≤ (rd x7 x17) then (if (rd x7 x17) < (x0.length : Int) then (if 0 ≤ x9 then (if x9 < (x0.length : Int) then ((mummerlaw11_sub.f k ((rd_T24 x0 (rd x7 x17)).f1) ((rd_T24 x0 x9).f1)).bind fun t429 => (if t429 = true then (if (rd x7 x17) = x9 then (mummerlaw11_BindsGreatest.l3 k x0 x7 x9 (wrap64 (x17 + 1))) else (if ((rd_T24 x0 (rd x7 x17)).f1).toList = ((rd_T24 x0 x9).f1).toList then (some false) else (mummerlaw11_BindsGreatest.l3 k x0 x7 x9 (wrap64 (x17 + 1))))) else (some false))) else (none)) else (none)) else (none)) else (none)) else (none)) else ((mummerlaw11_awake.f k).bind fun t434 => (some t434))
end
def mummerlaw11_BindsGreatest.f (k : Nat) (l0 : List (S24)) (a1 : ByteArray) (a2 : ByteArray) : Option (Bool) := (mummerlaw11_far.f k l0 (([a1, a2] : List ByteArray))).bind fun t389 => (if t389 = true then ((mummerlaw11_awake.f k).bind fun t390 => (some t390)) else ((binds_Candidates.f k l0 a1 a2).bind fun bt391 => ((binds_Resolve.f k l0 a1 a2).bind fun bt395 => (if bt391.2 = 0 then (mummerlaw11_BindsGreatest.l0 k l0 a1 a2 bt391.1 bt395.1 bt395.2 false false 0) else (if bt395.2 = bt391.2 then ((mummerlaw11_awake.f k).bind fun t397 => (some t397)) else (some false))))))
theorem mummerlaw11_BindsGreatest.mono_l : ∀ k, (∀ y0 y1 y2 y3 y4 y5 y6 y7 y8, LeO (mummerlaw11_BindsGreatest.l0 k y0 y1 y2 y3 y4 y5 y6 y7 y8) (mummerlaw11_BindsGreatest.l0 (k + 1) y0 y1 y2 y3 y4 y5 y6 y7 y8)) ∧ (∀ y0 y1 y2 y3 y4 y5 y6 y7 y8 y9, LeO (mummerlaw11_BindsGreatest.j1 k y0 y1 y2 y3 y4 y5 y6 y7 y8 y9) (mummerlaw11_BindsGreatest.j1 (k + 1) y0 y1 y2 y3 y4 y5 y6 y7 y8 y9)) ∧ (∀ y0 y1 y2 y3 y4 y5 y6 y7 y8, LeO (mummerlaw11_BindsGreatest.j2 k y0 y1 y2 y3 y4 y5 y6 y7 y8) (mummerlaw11_BindsGreatest.j2 (k + 1) y0 y1 y2 y3 y4 y5 y6 y7 y8)) ∧ (∀ y0 y1 y2 y3 y4 y5 y6 y7 y8 y9, LeO (mummerlaw11_BindsGreatest.l1 k y0 y1 y2 y3 y4 y5 y6 y7 y8 y9) (mummerlaw11_BindsGreatest.l1 (k + 1) y0 y1 y2 y3 y4 y5 y6 y7 y8 y9)) ∧ (∀ y0 y1 y2 y3 y4 y5 y6 y7 y8 y9, LeO (mummerlaw11_BindsGreatest.l2 k y0 y1 y2 y3 y4 y5 y6 y7 y8 y9) (mummerlaw11_BindsGreatest.l2 (k + 1) y0 y1 y2 y3 y4 y5 y6 y7 y8 y9)) ∧ (∀ y0 y1 y2 y3, LeO (mummerlaw11_BindsGreatest.l3 k y0 y1 y2 y3) (mummerlaw11_BindsGreatest.l3 (k + 1) y0 y1 y2 y3))
 | 0 => ⟨fun _ _ _ _ _ _ _ _ _ r h => by simp [mummerlaw11_BindsGreatest.l0] at h, fun _ _ _ _ _ _ _ _ _ _ r h => by simp [mummerlaw11_BindsGreatest.j1] at h, fun _ _ _ _ _ _ _ _ _ r h => by simp [mummerlaw11_BindsGreatest.j2] at h, fun _ _ _ _ _ _ _ _ _ _ r h => by simp [mummerlaw11_BindsGreatest.l1] at h, fun _ _ _ _ _ _ _ _ _ _ r h => by simp [mummerlaw11_BindsGreatest.l2] at h, fun _ _ _ _ r h => by simp [mummerlaw11_BindsGreatest.l3] at h⟩
 | k + 1 => by
  obtain ⟨ih0, ih1, ih2, ih3, ih4, ih5⟩ := mummerlaw11_BindsGreatest.mono_l k
  refine ⟨?_, ?_, ?_, ?_, ?_, ?_⟩
  ·intro y0 y1 y2 y3 y4 y5 y6 y7 y8
   unfold mummerlaw11_BindsGreatest.l0
   repeat' first
   | (with_reducible exact ih0 _ _ _ _ _ _ _ _ _)
   | (with_reducible exact ih1 _ _ _ _ _ _ _ _ _ _)
   | (with_reducible exact ih2 _ _ _ _ _ _ _ _ _)
   | (with_reducible exact ih3 _ _ _ _ _ _ _ _ _ _)
   | (with_reducible exact ih4 _ _ _ _ _ _ _ _ _ _)
   | (with_reducible exact ih5 _ _ _ _)
   | (with_reducible exact binds_Candidates.mono _ _ _ _)
   | (with_reducible exact binds_Resolve.mono _ _ _ _)
   | (with_reducible exact mummerlaw11_awake.mono _)
   | (with_reducible exact mummerlaw11_far.mono _ _ _)
   | (with_reducible exact mummerlaw11_sub.mono _ _ _)
   | (with_reducible exact LeO.refl _)
   | (with_reducible exact LeO.none _)
   | (with_reducible refine LeO.ite ?_ ?_)
   | (with_reducible refine LeO.bind ?_ (fun _ => ?_))
   | exact ih0 _ _ _ _ _ _ _ _ _
   | exact ih1 _ _ _ _ _ _ _ _ _ _
   | exact ih2 _ _ _ _ _ _ _ _ _
   | exact ih3 _ _ _ _ _ _ _ _ _ _
   | exact ih4 _ _ _ _ _ _ _ _ _ _
   | exact ih5 _ _ _ _
   | exact binds_Candidates.mono _ _ _ _
   | exact binds_Resolve.mono _ _ _ _
   | exact mummerlaw11_awake.mono _
   | exact mummerlaw11_far.mono _ _ _
   | exact mummerlaw11_sub.mono _ _ _
   | exact LeO.none _
   | refine LeO.ite ?_ ?_
   | refine LeO.bind ?_ (fun _ => ?_)
  ·intro y0 y1 y2 y3 y4 y5 y6 y7 y8 y9
   unfold mummerlaw11_BindsGreatest.j1
   repeat' first
   | (with_reducible exact ih0 _ _ _ _ _ _ _ _ _)
   | (with_reducible exact ih1 _ _ _ _ _ _ _ _ _ _)
   | (with_reducible exact ih2 _ _ _ _ _ _ _ _ _)
   | (with_reducible exact ih3 _ _ _ _ _ _ _ _ _ _)
   | (with_reducible exact ih4 _ _ _ _ _ _ _ _ _ _)
   | (with_reducible exact ih5 _ _ _ _)
   | (with_reducible exact binds_Candidates.mono _ _ _ _)
   | (with_reducible exact binds_Resolve.mono _ _ _ _)
   | (with_reducible exact mummerlaw11_awake.mono _)
   | (with_reducible exact mummerlaw11_far.mono _ _ _)
   | (with_reducible exact mummerlaw11_sub.mono _ _ _)
   | (with_reducible exact LeO.refl _)
   | (with_reducible exact LeO.none _)
   | (with_reducible refine LeO.ite ?_ ?_)
   | (with_reducible refine LeO.bind ?_ (fun _ => ?_))
   | exact ih0 _ _ _ _ _ _ _ _ _
   | exact ih1 _ _ _ _ _ _ _ _ _ _
   | exact ih2 _ _ _ _ _ _ _ _ _
   | exact ih3 _ _ _ _ _ _ _ _ _ _
   | exact ih4 _ _ _ _ _ _ _ _ _ _
   | exact ih5 _ _ _ _
   | exact binds_Candidates.mono _ _ _ _
   | exact binds_Resolve.mono _ _ _ _
   | exact mummerlaw11_awake.mono _
   | exact mummerlaw11_far.mono _ _ _
   | exact mummerlaw11_sub.mono _ _ _
   | exact LeO.none _
   | refine LeO.ite ?_ ?_
   | refine LeO.bind ?_ (fun _ => ?_)
  ·intro y0 y1 y2 y3 y4 y5 y6 y7 y8
   unfold mummerlaw11_BindsGreatest.j2
   repeat' first
   | (with_reducible exact ih0 _ _ _ _ _ _ _ _ _)
   | (with_reducible exact ih1 _ _ _ _ _ _ _ _ _ _)
   | (with_reducible exact ih2 _ _ _ _ _ _ _ _ _)
   | (with_reducible exact ih3 _ _ _ _ _ _ _ _ _ _)
   | (with_reducible exact ih4 _ _ _ _ _ _ _ _ _ _)
   | (with_reducible exact ih5 _ _ _ _)
   | (with_reducible exact binds_Candidates.mono _ _ _ _)
   | (with_reducible exact binds_Resolve.mono _ _ _ _)
   | (with_reducible exact mummerlaw11_awake.mono _)
   | (with_reducible exact mummerlaw11_far.mono _ _ _)
   | (with_reducible exact mummerlaw11_sub.mono _ _ _)
   | (with_reducible exact LeO.refl _)
   | (with_reducible exact LeO.none _)
   | (with_reducible refine LeO.ite ?_ ?_)
   | (with_reducible refine LeO.bind ?_ (fun _ => ?_))
   | exact ih0 _ _ _ _ _ _ _ _ _
   | exact ih1 _ _ _ _ _ _ _ _ _ _
   | exact ih2 _ _ _ _ _ _ _ _ _
   | exact ih3 _ _ _ _ _ _ _ _ _ _
   | exact ih4 _ _ _ _ _ _ _ _ _ _
   | exact ih5 _ _ _ _
   | exact binds_Candidates.mono _ _ _ _
   | exact binds_Resolve.mono _ _ _ _
   | exact mummerlaw11_awake.mono _
   | exact mummerlaw11_far.mono _ _ _
   | exact mummerlaw11_sub.mono _ _ _
   | exact LeO.none _
   | refine LeO.ite ?_ ?_
   | refine LeO.bind ?_ (fun _ => ?_)
  ·intro y0 y1 y2 y3 y4 y5 y6 y7 y8 y9
   unfold mummerlaw11_BindsGreatest.l1
   repeat' first
   | (with_reducible exact ih0 _ _ _ _ _ _ _ _ _)
   | (with_reducible exact ih1 _ _ _ _ _ _ _ _ _ _)
   | (with_reducible exact ih2 _ _ _ _ _ _ _ _ _)
   | (with_reducible exact ih3 _ _ _ _ _ _ _ _ _ _)
   | (with_reducible exact ih4 _ _ _ _ _ _ _ _ _ _)
   | (with_reducible exact ih5 _ _ _ _)
   | (with_reducible exact binds_Candidates.mono _ _ _ _)
   | (with_reducible exact binds_Resolve.mono _ _ _ _)
   | (with_reducible exact mummerlaw11_awake.mono _)
   | (with_reducible exact mummerlaw11_far.mono _ _ _)
   | (with_reducible exact mummerlaw11_sub.mono _ _ _)
   | (with_reducible exact LeO.refl _)
   | (with_reducible exact LeO.none _)
   | (with_reducible refine LeO.ite ?_ ?_)
   | (with_reducible refine LeO.bind ?_ (fun _ => ?_))
   | exact ih0 _ _ _ _ _ _ _ _ _
   | exact ih1 _ _ _ _ _ _ _ _ _ _
   | exact ih2 _ _ _ _ _ _ _ _ _
   | exact ih3 _ _ _ _ _ _ _ _ _ _
   | exact ih4 _ _ _ _ _ _ _ _ _ _
   | exact ih5 _ _ _ _
   | exact binds_Candidates.mono _ _ _ _
   | exact binds_Resolve.mono _ _ _ _
   | exact mummerlaw11_awake.mono _
   | exact mummerlaw11_far.mono _ _ _
   | exact mummerlaw11_sub.mono _ _ _
   | exact LeO.none _
   | refine LeO.ite ?_ ?_
   | refine LeO.bind ?_ (fun _ => ?_)
  ·intro y0 y1 y2 y3 y4 y5 y6 y7 y8 y9
   unfold mummerlaw11_BindsGreatest.l2
   repeat' first
   | (with_reducible exact ih0 _ _ _ _ _ _ _ _ _)
   | (with_reducible exact ih1 _ _ _ _ _ _ _ _ _ _)
   | (with_reducible exact ih2 _ _ _ _ _ _ _ _ _)
   | (with_reducible exact ih3 _ _ _ _ _ _ _ _ _ _)
   | (with_reducible exact ih4 _ _ _ _ _ _ _ _ _ _)
   | (with_reducible exact ih5 _ _ _ _)
   | (with_reducible exact binds_Candidates.mono _ _ _ _)
   | (with_reducible exact binds_Resolve.mono _ _ _ _)
   | (with_reducible exact mummerlaw11_awake.mono _)
   | (with_reducible exact mummerlaw11_far.mono _ _ _)
   | (with_reducible exact mummerlaw11_sub.mono _ _ _)
   | (with_reducible exact LeO.refl _)
   | (with_reducible exact LeO.none _)
   | (with_reducible refine LeO.ite ?_ ?_)
   | (with_reducible refine LeO.bind ?_ (fun _ => ?_))
   | exact ih0 _ _ _ _ _ _ _ _ _
   | exact ih1 _ _ _ _ _ _ _ _ _ _
   | exact ih2 _ _ _ _ _ _ _ _ _
   | exact ih3 _ _ _ _ _ _ _ _ _ _
   | exact ih4 _ _ _ _ _ _ _ _ _ _
   | exact ih5 _ _ _ _
   | exact binds_Candidates.mono _ _ _ _
   | exact binds_Resolve.mono _ _ _ _
   | exact mummerlaw11_awake.mono _
   | exact mummerlaw11_far.mono _ _ _
   | exact mummerlaw11_sub.mono _ _ _
   | exact LeO.none _
   | refine LeO.ite ?_ ?_
   | refine LeO.bind ?_ (fun _ => ?_)
  ·intro y0 y1 y2 y3
   unfold mummerlaw11_BindsGreatest.l3
   repeat' first
   | (with_reducible exact ih0 _ _ _ _ _ _ _ _ _)
   | (with_reducible exact ih1 _ _ _ _ _ _ _ _ _ _)
   | (with_reducible exact ih2 _ _ _ _ _ _ _ _ _)
   | (with_reducible exact ih3 _ _ _ _ _ _ _ _ _ _)
   | (with_reducible exact ih4 _ _ _ _ _ _ _ _ _ _)
   | (with_reducible exact ih5 _ _ _ _)
   | (with_reducible exact binds_Candidates.mono _ _ _ _)
   | (with_reducible exact binds_Resolve.mono _ _ _ _)
   | (with_reducible exact mummerlaw11_awake.mono _)
   | (with_reducible exact mummerlaw11_far.mono _ _ _)
   | (with_reducible exact mummerlaw11_sub.mono _ _ _)
   | (with_reducible exact LeO.refl _)
   | (with_reducible exact LeO.none _)
   | (with_reducible refine LeO.ite ?_ ?_)
   | (with_reducible refine LeO.bind ?_ (fun _ => ?_))
   | exact ih0 _ _ _ _ _ _ _ _ _
   | exact ih1 _ _ _ _ _ _ _ _ _ _
   | exact ih2 _ _ _ _ _ _ _ _ _
   | exact ih3 _ _ _ _ _ _ _ _ _ _
   | exact ih4 _ _ _ _ _ _ _ _ _ _
   | exact ih5 _ _ _ _
   | exact binds_Candidates.mono _ _ _ _
   | exact binds_Resolve.mono _ _ _ _
   | exact mummerlaw11_awake.mono _
   | exact mummerlaw11_far.mono _ _ _
   | exact mummerlaw11_sub.mono _ _ _
   | exact LeO.none _
   | refine LeO.ite ?_ ?_
   | refine LeO.bind ?_ (fun _ => ?_)
theorem mummerlaw11_BindsGreatest.mono : ∀ a0 a1 a2 k, LeO (mummerlaw11_BindsGreatest.f k a0 a1 a2) (mummerlaw11_BindsGreatest.f (k + 1) a0 a1 a2) := by
 intro a0 a1 a2 k
 obtain ⟨ih0, ih1, ih2, ih3, ih4, ih5⟩ := mummerlaw11_BindsGreatest.mono_l k
 unfold mummerlaw11_BindsGreatest.f
 repeat' first
   | (with_reducible exact ih0 _ _ _ _ _ _ _ _ _)
   | (with_reducible exact ih1 _ _ _ _ _ _ _ _ _ _)
   | (with_reducible exact ih2 _ _ _ _ _ _ _ _ _)
   | (with_reducible exact ih3 _ _ _ _ _ _ _ _ _ _)
   | (with_reducible exact ih4 _ _ _ _ _ _ _ _ _ _)
   | (with_reducible exact ih5 _ _ _ _)
   | (with_reducible exact binds_Candidates.mono _ _ _ _)
   | (with_reducible exact binds_Resolve.mono _ _ _ _)
   | (with_reducible exact mummerlaw11_awake.mono _)
   | (with_reducible exact mummerlaw11_far.mono _ _ _)
   | (with_reducible exact mummerlaw11_sub.mono _ _ _)
   | (with_reducible exact LeO.refl _)
   | (with_reducible exact LeO.none _)
   | (with_reducible refine LeO.ite ?_ ?_)
   | (with_reducible refine LeO.bind ?_ (fun _ => ?_))
   | exact ih0 _ _ _ _ _ _ _ _ _
   | exact ih1 _ _ _ _ _ _ _ _ _ _
   | exact ih2 _ _ _ _ _ _ _ _ _
   | exact ih3 _ _ _ _ _ _ _ _ _ _
   | exact ih4 _ _ _ _ _ _ _ _ _ _
   | exact ih5 _ _ _ _
   | exact binds_Candidates.mono _ _ _ _
   | exact binds_Resolve.mono _ _ _ _
   | exact mummerlaw11_awake.mono _
   | exact mummerlaw11_far.mono _ _ _
   | exact mummerlaw11_sub.mono _ _ _
   | exact LeO.none _
   | refine LeO.ite ?_ ?_
   | refine LeO.bind ?_ (fun _ => ?_)
def mummerlaw11_BindsGreatest.T11 : Bool × List (List Nat × List Nat) := (true, [([], []), ([], []), ([0, 1], [0, 1]), ([2], [2]), ([3], [3]), ([4], [4]), ([5], [5]), ([5], [5]), ([6, 7, 5], [5, 6, 7]), ([8, 5], [5, 8]), ([5], [5]), ([10, 5], [5, 10]), ([9, 11, 5], [5, 9, 11]), ([5, 12], [5, 12]), ([13, 5], [13]), ([14], [14]), ([15, 14], [14, 15]), ([16, 14, 14], [14, 16]), ([17], [17]), ([17], [17]), ([18, 19, 17], [17, 18, 19]), ([20, 17], [17, 20]), ([17], [17]), ([17], [17]), ([23, 17], [17, 23]), ([22, 24, 17], [17, 22, 24]), ([25, 17], [17, 25]), ([21, 26, 17], [17, 21, 26]), ([17, 27, 14], [14, 17, 27]), ([14, 28], [14, 28]), ([29, 17], [29]), ([30], [30]), ([30], [30]), ([30], [30]), ([32, 33, 30], [30, 32, 33]), ([34, 30], [30, 34]), ([31, 35, 30], [30, 31, 35]), ([36, 30], [30, 36]), ([37, 30], [30, 37]), ([30], [30]), ([38, 39, 30], [30, 38, 39]), ([30, 40], [30, 40]), ([41, 30], [41]), ([42], [42]), ([42], [42]), ([42], [42]), ([44, 45, 42], [42, 44, 45]), ([46, 42], [42, 46]), ([43, 47, 42], [42, 43, 47]), ([48, 42], [42, 48]), ([49, 42], [42, 49]), ([42], [42]), ([50, 51, 42, 42], [42, 50, 51]), ([52, 42], [42, 52]), ([42, 53], [42, 53])])
def mummerlaw11_BindsGreatest.B11 : List Nat := [0, 0, 3, 7, 15, 31, 63, 63, 255, 511, 63, 1087, 4095, 8191, 16383, 32767, 65535, 131071, 262143, 262143, 1048575, 2097151, 262143, 262143, 8650751, 29622271, 63176703, 134217727, 268435455, 536870911, 1073741823, 2147483647, 2147483647, 2147483647, 15032385535, 32212254719, 68719476735, 137438953471, 274877906943, 2147483647, 1099511627775, 2199023255551, 4398046511103, 8796093022207, 8796093022207, 8796093022207, 61572651155455, 131941395333119, 281474976710655, 562949953421311, 1125899906842623, 8796093022207, 4503599627370495, 9007199254740991, 18014398509481983]
theorem mummerlaw11_BindsGreatest.tab11 : rtab .any (opsOf Try.f5 11) = mummerlaw11_BindsGreatest.T11 := by kernel_rfl
theorem mummerlaw11_BindsGreatest.bits11 : waitsOk mummerlaw11_BindsGreatest.T11.2 mummerlaw11_BindsGreatest.B11 = true := by kernel_rfl
def mummerlaw11_BindsGreatest.T17 : Bool × List (List Nat × List Nat) := (true, [([], []), ([0], [0]), ([1], [1]), ([1], [1]), ([1], [1]), ([3, 4, 1], [1, 3, 4]), ([5, 1], [1, 5]), ([2, 6, 1], [1, 2, 6]), ([7, 1], [1, 7]), ([8, 1], [1, 8]), ([1], [1]), ([1], [1]), ([1], [1]), ([11, 12, 1], [1, 11, 12]), ([13, 1], [1, 13]), ([10, 14, 1], [1, 10, 14]), ([15, 1], [1, 15]), ([16, 1], [1, 16]), ([9, 17, 1, 1], [1, 9, 17]), ([18, 1], [1, 18]), ([19, 18, 1], [1, 19]), ([20], [20]), ([20], [20]), ([20], [20]), ([22, 23, 20], [20, 22, 23]), ([24, 20], [20, 24]), ([21, 25, 20], [20, 21, 25]), ([26, 20], [20, 26]), ([27, 20], [20, 27]), ([20], [20]), ([20], [20]), ([20], [20]), ([30, 31, 20], [20, 30, 31]), ([32, 20], [20, 32]), ([29, 33, 20], [20, 29, 33]), ([34, 20], [20, 34]), ([35, 20], [20, 35]), ([28, 36, 20, 20], [20, 28, 36]), ([37, 20], [20, 37]), ([20, 38, 1], [1, 20, 38]), ([1, 39], [1, 39]), ([40, 37, 0, 1, 2, 3, 4, 5, 6, 7, 8, 9, 10, 11, 12, 13, 14, 15, 16, 17, 18, 19, 20, 21, 22, 23, 24, 25, 26, 27, 28, 29, 30, 31, 32, 33, 34, 35, 36, 37, 38, 39, 40], [0, 40])])
def mummerlaw11_BindsGreatest.B17 : List Nat := [0, 1, 3, 3, 3, 27, 59, 127, 255, 511, 3, 3, 3, 6147, 14339, 31747, 64515, 130051, 262143, 524287, 1048575, 2097151, 2097151, 2097151, 14680063, 31457279, 67108863, 134217727, 268435455, 2097151, 2097151, 2097151, 3223322623, 7518289919, 16645095423, 33824964607, 68184702975, 137438953471, 274877906943, 549755813887, 1099511627775, 2199023255551]
theorem mummerlaw11_BindsGreatest.tab17 : rtab .any (opsOf Try.f5 17) = mummerlaw11_BindsGreatest.T17 := by kernel_rfl
theorem mummerlaw11_BindsGreatest.bits17 : waitsOk mummerlaw11_BindsGreatest.T17.2 mummerlaw11_BindsGreatest.B17 = true := by kernel_rfl
def mummerlaw11_BindsGreatest.T33 : Bool × List (List Nat × List Nat) := (true, [([], []), ([], []), ([], []), ([1, 2], [1, 2]), ([3], [3]), ([0, 4], [0, 4]), ([5], [5]), ([6], [6]), ([], []), ([], []), ([8, 9], [8, 9]), ([10], [10]), ([11], [11]), ([7, 12], [7, 12]), ([13], [13]), ([14, 13], [14]), ([15], [15]), ([15], [15]), ([16, 17, 15], [15, 16, 17]), ([18, 15], [15, 18]), ([15], [15]), ([19, 20, 15], [15, 19, 20]), ([21, 15, 15], [15, 21]), ([22], [22]), ([22], [22]), ([22], [22]), ([24, 25, 22], [22, 24, 25]), ([26, 22], [22, 26]), ([23, 27, 22], [22, 23, 27]), ([28, 22], [22, 28]), ([29, 22], [22, 29]), ([22], [22]), ([22], [22]), ([31, 32, 22], [22, 31, 32]), ([33, 22], [22, 33]), ([34, 22], [22, 34]), ([30, 35, 22], [22, 30, 35]), ([22, 36, 15], [15, 22, 36]), ([15, 37], [15, 37])])
def mummerlaw11_BindsGreatest.B33 : List Nat := [0, 0, 0, 6, 14, 31, 63, 127, 0, 0, 768, 1792, 3840, 8191, 16383, 32767, 65535, 65535, 262143, 524287, 65535, 2097151, 4194303, 8388607, 8388607, 8388607, 58720255, 125829119, 268435455, 536870911, 1073741823, 8388607, 8388607, 6450839551, 15040774143, 32220643327, 68719476735, 137438953471, 274877906943]
theorem mummerlaw11_BindsGreatest.tab33 : rtab .any (opsOf Try.f5 33) = mummerlaw11_BindsGreatest.T33 := by kernel_rfl
theorem mummerlaw11_BindsGreatest.bits33 : waitsOk mummerlaw11_BindsGreatest.T33.2 mummerlaw11_BindsGreatest.B33 = true := by kernel_rfl
set_option maxHeartbeats 8000000 in
set_option maxRecDepth 100000 in
theorem mummerlaw11_BindsGreatest.calls (k : Nat) (A0 : Option Addr) (c0 : Nat) (l0 : List (S24)) (a1 : ByteArray) (a2 : ByteArray) (r : Bool) (w : World) (hr0 : Kd.C k24 w A0 l0.length l0) (hc0 : l0.length ≤ c0) (hrt : Aside0 (r = true)) (h : mummerlaw11_BindsGreatest.f k l0 a1 a2 = some r) :
  Calls Try.prog 5 #[.slice A0 l0.length c0, .string a1, .string a2] w fun e w' => e = .returned (.bool r) ∧ Below w.heap.size w w' := by
 have HR0 := ak hr0
 have HC0 := ak hc0
 clear hr0 hc0
 have HB := ak (Below.refl w.heap.size w)
 have H : ((mummerlaw11_far.f k l0 (([a1, a2] : List ByteArray))).bind fun t389 => (if t389 = true then ((mummerlaw11_awake.f k).bind fun t390 => (some t390)) else ((binds_Candidates.f k l0 a1 a2).bind fun bt391 => ((binds_Resolve.f k l0 a1 a2).bind fun bt395 => (if bt391.2 = 0 then (mummerlaw11_BindsGreatest.l0 k l0 a1 a2 bt391.1 bt395.1 bt395.2 false false 0) else (if bt395.2 = bt391.2 then ((mummerlaw11_awake.f k).bind fun t397 => (some t397)) else (some false))))))) = some r := h
 clear h
 obtain ⟨y386, hy386⟩ : ∃ y_ : List ByteArray, y_ = (([a1, a2] : List ByteArray)) := ⟨_, rfl⟩
 replace H : ((mummerlaw11_far.f k l0 y386).bind fun t389 => (if t389 = true then ((mummerlaw11_awake.f k).bind fun t390 => (some t390)) else ((binds_Candidates.f k l0 a1 a2).bind fun bt391 => ((binds_Resolve.f k l0 a1 a2).bind fun bt395 => (if bt391.2 = 0 then (mummerlaw11_BindsGreatest.l0 k l0 a1 a2 bt391.1 bt395.1 bt395.2 false false 0) else (if bt395.2 = bt391.2 then ((mummerlaw11_awake.f k).bind fun t397 => (some t397)) else (some false))))))) = some r := by first | (rw [hy386]; with_reducible exact H) | (have H2_ := (Option.bind_some _ _).symm.trans H; rw [hy386]; with_reducible exact H2_) | (have H2_ := (Option.bind_some _ _).symm.trans H; with_reducible exact H2_) | with_reducible exact H | (rw [hy386]; exact H) | exact H
 have Ny386 := ak hy386
 clear hy386
 replace H := Option.bind_eq_some_iff.mp H
 obtain ⟨t389, A40, H⟩ := H
 replace H : (if t389 = true then ((mummerlaw11_awake.f k).bind fun t390 => (some t390)) else ((binds_Candidates.f k l0 a1 a2).bind fun bt391 => ((binds_Resolve.f k l0 a1 a2).bind fun bt395 => (if bt391.2 = 0 then (mummerlaw11_BindsGreatest.l0 k l0 a1 a2 bt391.1 bt395.1 bt395.2 false false 0) else (if bt395.2 = bt391.2 then ((mummerlaw11_awake.f k).bind fun t397 => (some t397)) else (some false)))))) = some r := H
 have A4 := ak A40
 clear A40
 by_cases c5 : t389 = true
 ·subst c5
  have H1 : ((mummerlaw11_awake.f k).bind fun t390 => (some t390)) = some r := by rw [if_pos rfl] at H; exact H
  clear H
  have H := H1
  clear H1
  replace H := Option.bind_eq_some_iff.mp H
  obtain ⟨t390, A60, H⟩ := H
  replace H : (some t390) = some r := H
  have A6 := ak A60
  clear A60
  obtain rfl := Option.some.inj H
  go_enter Try.func5, Try.ntmps5
  go_wp2_with (first | ((with_reducible refine gate_dst (N := 21) rfl ?_); (try (refine gate_guard (by rfl) ?_; dsimp only)); refine Kd.R_lit Kd.string _ 9 ?hg (N := 21) ?hd (xs := ([a1, a2] : List ByteArray)) (inner := [.string a1, .string a2]) (ok := fun _ => True) (okp := fun _ => True) ?hr ?hp (fun _ hk => hk) trivial (Below.refl _ _) (Nat.le_refl _) (by simp) ?_; (case hd => rfl); (case hg => rfl); (case hr => first | (go_simp; done) | (go_simp; rfl)); (case hp => exact (Reps.one (show Kd.M Kd.string _ _ _ a1 [.string a1] from rfl) (Reps.one (show Kd.M Kd.string _ _ _ a2 [.string a2] from rfl) (Reps.none _ _)))); intro v387 w7 ho8 hb hg_ hnew_; clear hg_ hnew_; (first | rw [← Ny386.out] at ho8 | (simp only [Int.reduceToNat] at ho8; rw [← Ny386.out] at ho8)); have n0_ := ak (Kd.R_lower ho8 (below_size (by repeat (first | (with_reducible first | exact HB.out | apply wA | apply wN | apply wD) | exact HB.out)))); have n1_ := ak (below_step (by repeat (first | (with_reducible first | exact HB.out | apply wA | apply wN | apply wD) | exact HB.out)) hb); clear HB; have HO388 := n0_; have HB := n1_; clear n0_ n1_; clear hb ho8; obtain ⟨Ao9, co9, eo9⟩ := Kd.R_slice HO388.out; subst eo9) | ((with_reducible refine gate_callee (f := 10) rfl ?_); refine goesL_ (some 22) rfl rfl Try.func10 (by kernel_rfl) rfl #[.slice A0 l0.length c0, .slice Ao9 y386.length co9] rfl (by (try simp only [List.map_toArray, List.map_cons, List.map_nil]); first | done | rfl | (simp only [List.length_drop, List.length_take]; rfl)) ?_; (with_reducible refine (mummerlaw11_far.calls k _ _ l0 _ _ y386 true _ ?side1 ?side2 ?side3 ?side4 A4.out).mono ?_); (case side1 => repeat (first | exact (Kd.C_below HR0.out HB.out) | (with_reducible refine Kd.C_alloc ?_ _) | (with_reducible refine Kd.C_drewN ?_ _) | (with_reducible refine Kd.C_drew ?_))); (case side2 => exact HC0.out); (case side3 => repeat (first | exact (Kd.R_reads' HO388.out).2.2 | (with_reducible refine Kd.C_alloc ?_ _) | (with_reducible refine Kd.C_drewN ?_ _) | (with_reducible refine Kd.C_drew ?_))); (case side4 => exact (Kd.R_reads' HO388.out).2.1); rintro e w' ⟨rfl, ⟨nd, rfl⟩⟩; refine ⟨_, rfl, ?_⟩) | ((with_reducible refine gate_callee (f := 11) rfl ?_); refine goesL_ (some 23) rfl rfl Try.func11 (by kernel_rfl) rfl #[] rfl (by (try simp only [List.map_toArray, List.map_cons, List.map_nil]); first | done | rfl | (simp only [List.length_drop, List.length_take]; rfl)) ?_; (with_reducible refine (mummerlaw11_awake.calls k  t390 _ hrt A6.out).mono ?_); rintro e w10 ⟨rfl, hb⟩; refine ⟨_, rfl, ?_⟩; have n0_ := ak (Kd.R_below (by (with_reducible repeat (first | apply Kd.R_alloc | apply Kd.R_drewN | apply Kd.R_drew)); exact HO388.out) hb); have n1_ := ak (below_step (by repeat (first | (with_reducible first | exact HB.out | apply wA | apply wN | apply wD) | exact HB.out)) hb); clear HO388; clear HB; have HO388 := n0_; have HB := n1_; clear n0_ n1_; (try clear hb); (try clear hb2); (try clear hk); (try clear hi)))
  go_ret
  exact ⟨by first | rfl | (simp [errW_none, errW_some] <;> rfl) | (simp [*, errW_none, errW_some] <;> rfl), by repeat (first | (with_reducible first | exact HB.out | apply wA | apply wN | apply wD) | exact HB.out)⟩
 ·replace c5 := Bool.eq_false_iff.mpr c5
  subst c5
  have H1 : ((binds_Candidates.f k l0 a1 a2).bind fun bt391 => ((binds_Resolve.f k l0 a1 a2).bind fun bt395 => (if bt391.2 = 0 then (mummerlaw11_BindsGreatest.l0 k l0 a1 a2 bt391.1 bt395.1 bt395.2 false false 0) else (if bt395.2 = bt391.2 then ((mummerlaw11_awake.f k).bind fun t397 => (some t397)) else (some false))))) = some r := by rw [if_neg (show ¬ (false = true) by decide)] at H; exact H
  clear H
  have H := H1
  clear H1
  replace H := Option.bind_eq_some_iff.mp H
  obtain ⟨⟨t391, t392⟩, A110, H⟩ := H
  replace H : ((binds_Resolve.f k l0 a1 a2).bind fun bt395 => (if t392 = 0 then (mummerlaw11_BindsGreatest.l0 k l0 a1 a2 t391 bt395.1 bt395.2 false false 0) else (if bt395.2 = t392 then ((mummerlaw11_awake.f k).bind fun t397 => (some t397)) else (some false)))) = some r := H
  have A11 := ak A110
  clear A110
  replace H := Option.bind_eq_some_iff.mp H
  obtain ⟨⟨t395, t396⟩, A120, H⟩ := H
  replace H : (if t392 = 0 then (mummerlaw11_BindsGreatest.l0 k l0 a1 a2 t391 t395 t396 false false 0) else (if t396 = t392 then ((mummerlaw11_awake.f k).bind fun t397 => (some t397)) else (some false))) = some r := H
  have A12 := ak A120
  clear A120
  by_cases c13 : t392 = 0
  ·rw [if_pos c13] at H
   have c13b0 : (t392 == 0) = true := beq_iff_eq.mpr c13
   have c13b1 : (t392 != 0) = false := bne_eq_false_iff_eq.mpr c13
   clear c13
   have H' := ak H
   clear H
   go_enter Try.func5, Try.ntmps5
   go_wp2_with (first | ((with_reducible refine gate_dst (N := 21) rfl ?_); (try (refine gate_guard (by rfl) ?_; dsimp only)); refine Kd.R_lit Kd.string _ 9 ?hg (N := 21) ?hd (xs := ([a1, a2] : List ByteArray)) (inner := [.string a1, .string a2]) (ok := fun _ => True) (okp := fun _ => True) ?hr ?hp (fun _ hk => hk) trivial (Below.refl _ _) (Nat.le_refl _) (by simp) ?_; (case hd => rfl); (case hg => rfl); (case hr => first | (go_simp; done) | (go_simp; rfl)); (case hp => exact (Reps.one (show Kd.M Kd.string _ _ _ a1 [.string a1] from rfl) (Reps.one (show Kd.M Kd.string _ _ _ a2 [.string a2] from rfl) (Reps.none _ _)))); intro v387 w14 ho15 hb hg_ hnew_; clear hg_ hnew_; (first | rw [← Ny386.out] at ho15 | (simp only [Int.reduceToNat] at ho15; rw [← Ny386.out] at ho15)); have n0_ := ak (Kd.R_lower ho15 (below_size (by repeat (first | (with_reducible first | exact HB.out | apply wA | apply wN | apply wD) | exact HB.out)))); have n1_ := ak (below_step (by repeat (first | (with_reducible first | exact HB.out | apply wA | apply wN | apply wD) | exact HB.out)) hb); clear HB; have HO388 := n0_; have HB := n1_; clear n0_ n1_; clear hb ho15; obtain ⟨Ao16, co16, eo16⟩ := Kd.R_slice HO388.out; subst eo16) | ((with_reducible refine gate_callee (f := 10) rfl ?_); refine goesL_ (some 22) rfl rfl Try.func10 (by kernel_rfl) rfl #[.slice A0 l0.length c0, .slice Ao16 y386.length co16] rfl (by (try simp only [List.map_toArray, List.map_cons, List.map_nil]); first | done | rfl | (simp only [List.length_drop, List.length_take]; rfl)) ?_; (with_reducible refine (mummerlaw11_far.calls k _ _ l0 _ _ y386 false _ ?side1 ?side2 ?side3 ?side4 A4.out).mono ?_); (case side1 => repeat (first | exact (Kd.C_below HR0.out HB.out) | (with_reducible refine Kd.C_alloc ?_ _) | (with_reducible refine Kd.C_drewN ?_ _) | (with_reducible refine Kd.C_drew ?_))); (case side2 => exact HC0.out); (case side3 => repeat (first | exact (Kd.R_reads' HO388.out).2.2 | (with_reducible refine Kd.C_alloc ?_ _) | (with_reducible refine Kd.C_drewN ?_ _) | (with_reducible refine Kd.C_drew ?_))); (case side4 => exact (Kd.R_reads' HO388.out).2.1); rintro e w' ⟨rfl, ⟨nd, rfl⟩⟩; refine ⟨_, rfl, ?_⟩) | ((with_reducible refine gate_callee (f := 17) rfl ?_); refine goesL_ (some 28) rfl rfl Try.func17 (by kernel_rfl) rfl #[.slice A0 l0.length c0, .string a1, .string a2] rfl (by (try simp only [List.map_toArray, List.map_cons, List.map_nil]); first | done | rfl | (simp only [List.length_drop, List.length_take]; rfl)) ?_; (with_reducible refine (binds_Candidates.calls k _ _ l0 a1 a2 t391 t392 _ ?side1 ?side2 A11.out).mono ?_); (case side1 => repeat (first | exact (Kd.C_below HR0.out (by repeat (first | (with_reducible first | exact HB.out | apply wA | apply wN | apply wD) | exact HB.out))) | (with_reducible refine Kd.C_alloc ?_ _) | (with_reducible refine Kd.C_drewN ?_ _) | (with_reducible refine Kd.C_drew ?_))); (case side2 => exact HC0.out); rintro e w17 ⟨v393, rfl, ho0, hb⟩; refine ⟨_, rfl, ?_⟩; have n0_ := ak (Kd.R_below (by (with_reducible repeat (first | apply Kd.R_alloc | apply Kd.R_drewN | apply Kd.R_drew)); exact HO388.out) hb); have n1_ := ak (Kd.R_lower ho0 (below_size (by repeat (first | (with_reducible first | exact HB.out | apply wA | apply wN | apply wD) | exact HB.out)))); have n2_ := ak (below_step (by repeat (first | (with_reducible first | exact HB.out | apply wA | apply wN | apply wD) | exact HB.out)) hb); clear HO388; clear HB; have HO388 := n0_; have HO394 := n1_; have HB := n2_; clear n0_ n1_ n2_; (try clear hb); (try clear hb2); (try clear hk); (try clear hi); (try clear ho0)) | ((with_reducible refine gate_callee (f := 19) rfl ?_); refine goesL_ (some 35) rfl rfl Try.func19 (by kernel_rfl) rfl #[.slice A0 l0.length c0, .string a1, .string a2] rfl (by (try simp only [List.map_toArray, List.map_cons, List.map_nil]); first | done | rfl | (simp only [List.length_drop, List.length_take]; rfl)) ?_; (with_reducible refine (binds_Resolve.calls k _ _ l0 a1 a2 t395 t396 _ ?side1 ?side2 A12.out).mono ?_); (case side1 => repeat (first | exact (Kd.C_below HR0.out HB.out) | (with_reducible refine Kd.C_alloc ?_ _) | (with_reducible refine Kd.C_drewN ?_ _) | (with_reducible refine Kd.C_drew ?_))); (case side2 => exact HC0.out); rintro e w18 ⟨rfl, hb⟩; refine ⟨_, rfl, ?_⟩; have n0_ := ak (Kd.R_below (by (with_reducible repeat (first | apply Kd.R_alloc | apply Kd.R_drewN | apply Kd.R_drew)); exact HO388.out) hb); have n1_ := ak (Kd.R_below (by (with_reducible repeat (first | apply Kd.R_alloc | apply Kd.R_drewN | apply Kd.R_drew)); exact HO394.out) hb); have n2_ := ak (below_step (by repeat (first | (with_reducible first | exact HB.out | apply wA | apply wN | apply wD) | exact HB.out)) hb); clear HO388; clear HO394; clear HB; have HO388 := n0_; have HO394 := n1_; have HB := n2_; clear n0_ n1_ n2_; (try clear hb); (try clear hb2); (try clear hk); (try clear hi)))
   go_loopg [11, 12, 13] k (fun kq v11 v12 v13 w' => ∃ (x11_1 : Bool) (x12_1 : Bool) (x13_1 : Int), v11 = .bool x11_1 ∧ v12 = .bool x12_1 ∧ v13 = .int .i64 x13_1 ∧ Aside0 (mummerlaw11_BindsGreatest.l0 kq l0 a1 a2 t391 t395 t396 x11_1 x12_1 x13_1 = some r) ∧ Aside0 (kq ≤ k) ∧ Aside0 (Kd.R (Kd.int .i64) 3 w' w.heap.size (fun _ => True) v393 t391) ∧ Aside0 (Below w.heap.size w w'))
   case atStart => exact ⟨(false), (false), (0), (by first | rfl | (simp; done) | (simp [*]; done)), (by first | rfl | (simp; done) | (simp [*]; done)), (by first | rfl | (simp; done) | (simp [*]; done)), H', ⟨Nat.le_refl _⟩, ⟨by (with_reducible repeat (first | apply Kd.R_alloc | apply Kd.R_drewN | apply Kd.R_drew)); exact HO394.out⟩, ⟨by repeat (first | (with_reducible first | exact HB.out | apply wA | apply wN | apply wD) | exact HB.out)⟩⟩
   case round =>
    clear H'
    try clear c1
    try clear p2
    try clear c5
    try clear c10
    try clear c11
    try clear c13
    try clear c13b0
    try clear c13b1
    try clear c17
    obtain ⟨x11_1, x12_1, x13_1, rfl, rfl, rfl, HA, HK1, HO_7, HB⟩ := hrel
    cases gk with
    | zero => exact absurd HA.out (by simp [mummerlaw11_BindsGreatest.l0])
    | succ k1 =>
     have H := HA.out
     clear HA
     simp only [mummerlaw11_BindsGreatest.l0] at H
     by_cases c19 : x13_1 < (t391.length : Int)
     ·rw [if_pos c19] at H
      have c19b0 : decide (x13_1 < (t391.length : Int)) = true := decide_eq_true c19
      clear c19
      have HC20 := ak H
      clear H
      obtain ⟨Ao21, co21, eo21⟩ := Kd.R_slice HO_7.out
      subst eo21
      go_upto_region 11 with (fail)
      go_cut [106] (fun v106 wc => ∃ (kq : Nat) (x106_19 : Bool), v106 = .bool x106_19 ∧ Aside0 (mummerlaw11_BindsGreatest.j1 kq l0 a1 a2 t391 t395 t396 x11_1 x12_1 x13_1 x106_19 = some r) ∧ Aside0 (kq ≤ k1) ∧ Aside0 (Kd.R (Kd.int .i64) 3 wc w.heap.size (fun _ => True) (.slice Ao21 t391.length co21) t391) ∧ Aside0 (Below w.heap.size w wc))
      case first =>
       have H := HC20.out
       clear HC20
       by_cases c22 : 0 ≤ x13_1
       ·rw [if_pos c22] at H
        have c22b0 : decide (0 ≤ x13_1) = true := decide_eq_true c22
        clear c22
        (first | rw [c22b0] | (simp only [i64_w, i32_w]; rw [c22b0]) | skip)
        by_cases c23 : (rd t391 x13_1) < 0
        ·rw [if_pos c23] at H
         have c23b0 : decide ((rd t391 x13_1) < 0) = true := decide_eq_true c23
         clear c23
         exact absurd ((Option.some.inj H).trans hrt.out) (by decide)
        ·rw [if_neg c23] at H
         have c23b0 : decide ((rd t391 x13_1) < 0) = false := decide_eq_false c23
         clear c23
         by_cases c24 : (rd t391 x13_1) ≥ (l0.length : Int)
         ·rw [if_pos c24] at H
          have c24b0 : decide ((l0.length : Int) ≤ (rd t391 x13_1)) = true := decide_eq_true c24
          clear c24
          exact absurd ((Option.some.inj H).trans hrt.out) (by decide)
         ·rw [if_neg c24] at H
          have c24b0 : decide ((l0.length : Int) ≤ (rd t391 x13_1)) = false := decide_eq_false c24
          clear c24
          by_cases c25 : x13_1 > 0
          ·rw [if_pos c25] at H
           have c25b0 : decide (0 < x13_1) = true := decide_eq_true c25
           clear c25
           obtain ⟨ji26, hji26⟩ : ∃ j_ : Int, (wrap64 (x13_1 - 1)) = j_ := ⟨_, rfl⟩
           replace H : (if 0 ≤ (ji26) then (if (ji26) < (t391.length : Int) then (if (rd t391 x13_1) ≤ (rd t391 (ji26)) then (some false) else (if 0 ≤ (rd t391 x13_1) then (if (rd t391 x13_1) < (l0.length : Int) then (if ((rd_T24 l0 (rd t391 x13_1)).f0).toList = a1.toList then ((mummerlaw11_sub.f k1 ((rd_T24 l0 (rd t391 x13_1)).f1) a2).bind fun t406 => (mummerlaw11_BindsGreatest.j1 k1 l0 a1 a2 t391 t395 t396 x11_1 x12_1 x13_1 (!t406))) else (some false)) else (none)) else (none))) else (none)) else (none)) = some r := by first | (rw [hji26] at H; exact H) | (simp only [hji26] at H ⊢; exact H)
           have hji26w : (IntKind.i64.wrap (x13_1 - 1)) = ji26 := (i64_w _).trans hji26
           by_cases c27 : 0 ≤ (ji26)
           ·rw [if_pos c27] at H
            have c27b0 : decide (0 ≤ (ji26)) = true := decide_eq_true c27
            clear c27
            by_cases c28 : (ji26) < (t391.length : Int)
            ·rw [if_pos c28] at H
             have c28b0 : decide ((ji26) < (t391.length : Int)) = true := decide_eq_true c28
             clear c28
             by_cases c29 : (rd t391 x13_1) ≤ (rd t391 (ji26))
             ·rw [if_pos c29] at H
              have c29b0 : decide ((rd t391 x13_1) ≤ (rd t391 (ji26))) = true := decide_eq_true c29
              clear c29
              exact absurd ((Option.some.inj H).trans hrt.out) (by decide)
             ·rw [if_neg c29] at H
              have c29b0 : decide ((rd t391 x13_1) ≤ (rd t391 (ji26))) = false := decide_eq_false c29
              clear c29
              by_cases c30 : 0 ≤ (rd t391 x13_1)
              ·rw [if_pos c30] at H
               have c30b0 : decide (0 ≤ (rd t391 x13_1)) = true := decide_eq_true c30
               clear c30
               by_cases c31 : (rd t391 x13_1) < (l0.length : Int)
               ·rw [if_pos c31] at H
                have c31b0 : decide ((rd t391 x13_1) < (l0.length : Int)) = true := decide_eq_true c31
                clear c31
                by_cases c32 : ((rd_T24 l0 (rd t391 x13_1)).f0).toList = a1.toList
                ·rw [if_pos c32] at H
                 have c32b0 : (((rd_T24 l0 (rd t391 x13_1)).f0).toList == a1.toList) = true := beq_iff_eq.mpr c32
                 have c32b1 : (((rd_T24 l0 (rd t391 x13_1)).f0).toList != a1.toList) = false := bne_eq_false_iff_eq.mpr c32
                 clear c32
                 replace H := Option.bind_eq_some_iff.mp H
                 obtain ⟨t406, A330, H⟩ := H
                 replace H : (mummerlaw11_BindsGreatest.j1 k1 l0 a1 a2 t391 t395 t396 x11_1 x12_1 x13_1 (!t406)) = some r := H
                 have A33 := ak A330
                 clear A330
                 have H' := ak H
                 clear H
                 try go_wp2
                 have n0_ := ak (Kd.R_drew HO_7.out)
                 have n1_ := ak (wD HB.out)
                 clear HO_7 HB
                 have HO_7 := n0_
                 have HB := n1_
                 clear n0_ n1_
                 have p398 : 0 ≤ (x13_1 : Int) := of_decide_eq_true (by first | (with_reducible assumption) | assumption)
                 have q398 : x13_1 < (t391.length : Int) := of_decide_eq_true (by first | (with_reducible assumption) | assumption)
                 obtain ⟨ad398, e398, hx398_0⟩ := Kd.at_int (Kd.R_reads' HO_7.out).2.2 x13_1 p398 q398
                 cases e398
                 replace p398 := eq_true p398
                 replace q398 := eq_true q398
                 have p399 : 0 ≤ (x13_1 : Int) := of_decide_eq_true (by first | (with_reducible assumption) | assumption)
                 have q399 : x13_1 < (t391.length : Int) := of_decide_eq_true (by first | (with_reducible assumption) | assumption)
                 obtain ⟨ad399, e399, hx399_0⟩ := Kd.at_int (Kd.R_reads' HO_7.out).2.2 x13_1 p399 q399
                 obtain rfl : ad398 = ad399 := (by injection e399)
                 replace p399 := eq_true p399
                 replace q399 := eq_true q399
                 have p400 : 0 ≤ (x13_1 : Int) := of_decide_eq_true (by first | (with_reducible assumption) | assumption)
                 have q400 : x13_1 < (t391.length : Int) := of_decide_eq_true (by first | (with_reducible assumption) | assumption)
                 obtain ⟨ad400, e400, hx400_0⟩ := Kd.at_int (Kd.R_reads' HO_7.out).2.2 x13_1 p400 q400
                 obtain rfl : ad398 = ad400 := (by injection e400)
                 replace p400 := eq_true p400
                 replace q400 := eq_true q400
                 have p401 : 0 ≤ ((ji26) : Int) := of_decide_eq_true (by first | (with_reducible assumption) | assumption)
                 have q401 : (ji26) < (t391.length : Int) := of_decide_eq_true (by first | (with_reducible assumption) | assumption)
                 obtain ⟨ad401, e401, hx401_0⟩ := Kd.at_int (Kd.R_reads' HO_7.out).2.2 (ji26) p401 q401
                 obtain rfl : ad398 = ad401 := (by injection e401)
                 replace p401 := eq_true p401
                 replace q401 := eq_true q401
                 have p402 : 0 ≤ (x13_1 : Int) := of_decide_eq_true (by first | (with_reducible assumption) | assumption)
                 have q402 : x13_1 < (t391.length : Int) := of_decide_eq_true (by first | (with_reducible assumption) | assumption)
                 obtain ⟨ad402, e402, hx402_0⟩ := Kd.at_int (Kd.R_reads' HO_7.out).2.2 x13_1 p402 q402
                 obtain rfl : ad398 = ad402 := (by injection e402)
                 replace p402 := eq_true p402
                 replace q402 := eq_true q402
                 have p403 : 0 ≤ ((rd t391 x13_1) : Int) := of_decide_eq_true (by first | (with_reducible assumption) | assumption)
                 have q403 : (rd t391 x13_1) < (l0.length : Int) := of_decide_eq_true (by first | (with_reducible assumption) | assumption)
                 obtain ⟨ad403, e403, hx403_0, hx403_1, hx403_2, hx403_3⟩ := at_T24 HR0.out (rd t391 x13_1) p403 q403
                 have hw403_3 := hx403_3
                 have hw403_2 := hx403_2
                 have hw403_1 := hx403_1
                 have hw403_0 := hx403_0
                 cases e403
                 replace hx403_0 := (HB.out.cell (World.block_lt_of_cell? w _ hx403_0)).trans hx403_0
                 replace hx403_1 := (HB.out.cell (World.block_lt_of_cell? w _ hx403_1)).trans hx403_1
                 replace hx403_2 := (HB.out.cell (World.block_lt_of_cell? w _ hx403_2)).trans hx403_2
                 replace hx403_3 := (HB.out.cell (World.block_lt_of_cell? w _ hx403_3)).trans hx403_3
                 replace p403 := eq_true p403
                 replace q403 := eq_true q403
                 have p404 : 0 ≤ (x13_1 : Int) := of_decide_eq_true (by first | (with_reducible assumption) | assumption)
                 have q404 : x13_1 < (t391.length : Int) := of_decide_eq_true (by first | (with_reducible assumption) | assumption)
                 obtain ⟨ad404, e404, hx404_0⟩ := Kd.at_int (Kd.R_reads' HO_7.out).2.2 x13_1 p404 q404
                 obtain rfl : ad398 = ad404 := (by injection e404)
                 replace p404 := eq_true p404
                 replace q404 := eq_true q404
                 have p405 : 0 ≤ ((rd t391 x13_1) : Int) := of_decide_eq_true (by first | (with_reducible assumption) | assumption)
                 have q405 : (rd t391 x13_1) < (l0.length : Int) := of_decide_eq_true (by first | (with_reducible assumption) | assumption)
                 obtain ⟨ad405, e405, hx405_0, hx405_1, hx405_2, hx405_3⟩ := at_T24 HR0.out (rd t391 x13_1) p405 q405
                 have hw405_3 := hx405_3
                 have hw405_2 := hx405_2
                 have hw405_1 := hx405_1
                 have hw405_0 := hx405_0
                 obtain rfl : ad403 = ad405 := (by injection e405)
                 replace hx405_0 := (HB.out.cell (World.block_lt_of_cell? w _ hx405_0)).trans hx405_0
                 replace hx405_1 := (HB.out.cell (World.block_lt_of_cell? w _ hx405_1)).trans hx405_1
                 replace hx405_2 := (HB.out.cell (World.block_lt_of_cell? w _ hx405_2)).trans hx405_2
                 replace hx405_3 := (HB.out.cell (World.block_lt_of_cell? w _ hx405_3)).trans hx405_3
                 replace p405 := eq_true p405
                 replace q405 := eq_true q405
                 refine start_ (n := 55) (S := fun w' => w'.cell? (ad398.add (x13_1).toNat) = some (.int .i64 (rd t391 x13_1)) ∧ w'.cell? (ad398.add (x13_1).toNat) = some (.int .i64 (rd t391 x13_1)) ∧ w'.cell? (ad398.add (x13_1).toNat) = some (.int .i64 (rd t391 x13_1)) ∧ w'.cell? (ad398.add ((ji26)).toNat) = some (.int .i64 (rd t391 (ji26))) ∧ w'.cell? (ad398.add (x13_1).toNat) = some (.int .i64 (rd t391 x13_1)) ∧ w'.cell? (ad403.add (((rd t391 x13_1)).toNat * 4)) = some (.string ((rd_T24 l0 (rd t391 x13_1)).f0)) ∧ w'.cell? ⟨(ad403.add (((rd t391 x13_1)).toNat * 4)).block, (ad403.add (((rd t391 x13_1)).toNat * 4)).off + 1, none⟩ = some (.string ((rd_T24 l0 (rd t391 x13_1)).f1)) ∧ w'.cell? ⟨(ad403.add (((rd t391 x13_1)).toNat * 4)).block, (ad403.add (((rd t391 x13_1)).toNat * 4)).off + 2, none⟩ = some (.int .i64 ((rd_T24 l0 (rd t391 x13_1)).f2)) ∧ w'.cell? ⟨(ad403.add (((rd t391 x13_1)).toNat * 4)).block, (ad403.add (((rd t391 x13_1)).toNat * 4)).off + 3, none⟩ = some (.int .i64 ((rd_T24 l0 (rd t391 x13_1)).f3)) ∧ w'.cell? (ad398.add (x13_1).toNat) = some (.int .i64 (rd t391 x13_1)) ∧ w'.cell? (ad403.add (((rd t391 x13_1)).toNat * 4)) = some (.string ((rd_T24 l0 (rd t391 x13_1)).f0)) ∧ w'.cell? ⟨(ad403.add (((rd t391 x13_1)).toNat * 4)).block, (ad403.add (((rd t391 x13_1)).toNat * 4)).off + 1, none⟩ = some (.string ((rd_T24 l0 (rd t391 x13_1)).f1)) ∧ w'.cell? ⟨(ad403.add (((rd t391 x13_1)).toNat * 4)).block, (ad403.add (((rd t391 x13_1)).toNat * 4)).off + 2, none⟩ = some (.int .i64 ((rd_T24 l0 (rd t391 x13_1)).f2)) ∧ w'.cell? ⟨(ad403.add (((rd t391 x13_1)).toNat * 4)).block, (ad403.add (((rd t391 x13_1)).toNat * 4)).off + 3, none⟩ = some (.int .i64 ((rd_T24 l0 (rd t391 x13_1)).f3))) (ds := []) q5_0 (by kernel_rfl) rfl rfl ⟨hx398_0, hx399_0, hx400_0, hx401_0, hx402_0, ((HB.out.cell (World.block_lt_of_cell? w _ hw403_0)).trans hw403_0), ((HB.out.cell (World.block_lt_of_cell? w _ hw403_1)).trans hw403_1), ((HB.out.cell (World.block_lt_of_cell? w _ hw403_2)).trans hw403_2), ((HB.out.cell (World.block_lt_of_cell? w _ hw403_3)).trans hw403_3), hx404_0, ((HB.out.cell (World.block_lt_of_cell? w _ hw405_0)).trans hw405_0), ((HB.out.cell (World.block_lt_of_cell? w _ hw405_1)).trans hw405_1), ((HB.out.cell (World.block_lt_of_cell? w _ hw405_2)).trans hw405_2), ((HB.out.cell (World.block_lt_of_cell? w _ hw405_3)).trans hw405_3)⟩ (fun hHeld => ?_); refine with_tabW mummerlaw11_BindsGreatest.tab11 mummerlaw11_BindsGreatest.bits11 (fun HT_ HW_ => ?_)
                 generalize wr.drew = w34 at HO_7 HB hx398_0 hx399_0 hx400_0 hx401_0 hx402_0 hx403_0 hx403_1 hx403_2 hx403_3 hx404_0 hx405_0 hx405_1 hx405_2 hx405_3 hHeld ⊢
                 refine pure_ (i := 0) (N := some 52) (v := ?_) (a' := ?_) q5_1 rfl rfl (any_of HT_.out (by kernel_rfl)) (fun _ _ _ h => h) (Or.inl ⟨by rfl, ?_⟩) ?_ ?_; rotate_left; ·(intro w'; go_simp; with_reducible rfl)
                 rotate_left; ·(simp only [Act.put, sA_, s0_, s1_, i64_w, i32_w]; rfl)
                 refine pure_ (i := 1) (N := some 53) (v := ?_) (a' := ?_) q5_2 rfl rfl (any_of HT_.out (by kernel_rfl)) (fun _ _ _ h => h) (Or.inl ⟨by rfl, ?_⟩) ?_ ?_; rotate_left; ·(intro w'; go_simp; with_reducible rfl)
                 rotate_left; ·(simp only [Act.put, sA_, s0_, s1_, i64_w, i32_w]; rfl)
                 refine pure_ (i := 2) (N := some 54) (v := ?_) (a' := ?_) q5_3 rfl rfl (any_of HT_.out (by kernel_rfl)) (fun _ _ _ h => h) (Or.inl ⟨by rfl, ?_⟩) ?_ ?_; rotate_left; ·(intro w'; go_simp; with_reducible rfl)
                 rotate_left; ·(simp only [Act.put, sA_, s0_, s1_, i64_w, i32_w]; rfl)
                 refine take_ (i := 3) (N := some 55) (v := ?_) (a' := ?_) q5_4 rfl rfl (take_ofW HT_.out HW_.out (by kernel_rfl)) (fun _ _ _ h => h) (Or.inl ⟨by rfl, ?_⟩) hHeld ?_ ?_; rotate_left; ·(rintro w' ⟨s0, s1, s2, s3, s4, s5, s6, s7, s8, s9, s10, s11, s12, s13⟩; go_simp; with_reducible rfl)
                 rotate_left; ·(simp only [Act.put, sA_, s0_, s1_, i64_w, i32_w]; rfl)
                 refine pure_ (i := 4) (N := some 56) (v := ?_) (a' := ?_) q5_5 rfl rfl (any_of HT_.out (by kernel_rfl)) (fun _ _ _ h => h) (Or.inl ⟨by rfl, ?_⟩) ?_ ?_; rotate_left; ·(intro w'; go_simp; with_reducible rfl)
                 rotate_left; ·(simp only [Act.put, sA_, s0_, s1_, i64_w, i32_w]; rfl)
                 refine pure_ (i := 5) (N := some 57) (v := ?_) (a' := ?_) q5_6 rfl rfl (any_of HT_.out (by kernel_rfl)) (fun _ _ _ h => h) (Or.inl ⟨by rfl, ?_⟩) ?_ ?_; rotate_left; ·(intro w'; go_simp; with_reducible rfl)
                 rotate_left; ·(simp only [Act.put, sA_, s0_, s1_, i64_w, i32_w]; rfl)
                 refine pure_ (i := 6) (N := some 58) (v := ?_) (a' := ?_) q5_7 rfl rfl (any_of HT_.out (by kernel_rfl)) (fun _ _ _ h => h) (Or.inl ⟨by rfl, ?_⟩) ?_ ?_; rotate_left; ·(intro w'; go_simp; with_reducible rfl)
                 rotate_left; ·(simp only [Act.put, sA_, s0_, s1_, i64_w, i32_w]; rfl)
                 refine pure_ (i := 7) (N := some 59) (v := ?_) (a' := ?_) q5_8 rfl rfl (any_of HT_.out (by kernel_rfl)) (fun _ _ _ h => h) (Or.inl ⟨by rfl, ?_⟩) ?_ ?_; rotate_left; ·(intro w'; go_simp; with_reducible rfl)
                 rotate_left; ·(simp only [Act.put, sA_, s0_, s1_, i64_w, i32_w]; rfl)
                 refine pure_ (i := 8) (N := some 60) (v := ?_) (a' := ?_) q5_9 rfl rfl (any_of HT_.out (by kernel_rfl)) (fun _ _ _ h => h) (Or.inl ⟨by rfl, ?_⟩) ?_ ?_; rotate_left; ·(intro w'; go_simp; with_reducible rfl)
                 rotate_left; ·(simp only [Act.put, sA_, s0_, s1_, i64_w, i32_w]; rfl)
                 refine pure_ (i := 10) (N := some 62) (v := ?_) (a' := ?_) q5_10 rfl rfl (any_of HT_.out (by kernel_rfl)) (fun _ _ _ h => h) (Or.inl ⟨by rfl, ?_⟩) ?_ ?_; rotate_left; ·(intro w'; go_simp; with_reducible rfl)
                 rotate_left; ·(simp only [Act.put, sA_, s0_, s1_, i64_w, i32_w]; rfl)
                 refine pure_ (i := 11) (N := some 63) (v := ?_) (a' := ?_) q5_11 rfl rfl (any_of HT_.out (by kernel_rfl)) (fun _ _ _ h => h) (Or.inl ⟨by rfl, ?_⟩) ?_ ?_; rotate_left; ·(intro w'; go_simp; with_reducible rfl)
                 rotate_left; ·(simp only [Act.put, sA_, s0_, s1_, i64_w, i32_w]; rfl)
                 refine take_ (i := 9) (N := some 61) (v := ?_) (a' := ?_) q5_12 rfl rfl (take_ofW HT_.out HW_.out (by kernel_rfl)) (fun _ _ _ h => h) (Or.inl ⟨by rfl, ?_⟩) hHeld ?_ ?_; rotate_left; ·(rintro w' ⟨s0, s1, s2, s3, s4, s5, s6, s7, s8, s9, s10, s11, s12, s13⟩; go_simp; with_reducible rfl)
                 rotate_left; ·(simp only [Act.put, sA_, s0_, s1_, i64_w, i32_w]; rfl)
                 refine pure_ (i := 12) (N := some 64) (v := ?_) (a' := ?_) q5_13 rfl rfl (any_of HT_.out (by kernel_rfl)) (fun _ _ _ h => h) (Or.inl ⟨by rfl, ?_⟩) ?_ ?_; rotate_left; ·(intro w'; go_simp; with_reducible rfl)
                 rotate_left; ·(simp only [Act.put, sA_, s0_, s1_, i64_w, i32_w]; rfl)
                 refine pure_ (i := 13) (N := some 65) (v := ?_) (a' := ?_) q5_14 rfl rfl (any_of HT_.out (by kernel_rfl)) (fun _ _ _ h => h) (Or.inl ⟨by rfl, ?_⟩) ?_ ?_; rotate_left; ·(intro w'; go_simp; with_reducible rfl)
                 rotate_left; ·(simp only [Act.put, sA_, s0_, s1_, i64_w, i32_w]; rfl)
                 refine pure_ (i := 14) (N := some 66) (v := ?_) (a' := ?_) q5_15 rfl rfl (any_of HT_.out (by kernel_rfl)) (fun _ _ _ h => h) (Or.inl ⟨by rfl, ?_⟩) ?_ ?_; rotate_left; ·(intro w'; go_simp; with_reducible rfl)
                 rotate_left; ·(simp only [Act.put, sA_, s0_, s1_, i64_w, i32_w]; rfl)
                 refine pure_ (i := 15) (N := some 67) (v := ?_) (a' := ?_) q5_16 rfl rfl (any_of HT_.out (by kernel_rfl)) (fun _ _ _ h => h) (Or.inl ⟨by rfl, ?_⟩) ?_ ?_; rotate_left; ·(intro w'; go_simp; with_reducible rfl)
                 rotate_left; ·(simp only [Act.put, sA_, s0_, s1_, i64_w, i32_w]; rfl)
                 refine pure_ (i := 16) (N := some 68) (v := ?_) (a' := ?_) q5_17 rfl rfl (any_of HT_.out (by kernel_rfl)) (fun _ _ _ h => h) (Or.inl ⟨by rfl, ?_⟩) ?_ ?_; rotate_left; ·(intro w'; go_simp; with_reducible rfl)
                 rotate_left; ·(simp only [Act.put, sA_, s0_, s1_, i64_w, i32_w]; rfl)
                 refine pure_ (i := 17) (N := some 69) (v := ?_) (a' := ?_) q5_18 rfl rfl (any_of HT_.out (by kernel_rfl)) (fun _ _ _ h => h) (Or.inl ⟨by rfl, ?_⟩) ?_ ?_; rotate_left; ·(intro w'; go_simp; with_reducible rfl)
                 rotate_left; ·(simp only [Act.put, sA_, s0_, s1_, i64_w, i32_w]; rfl)
                 refine pure_ (i := 18) (N := some 70) (v := ?_) (a' := ?_) q5_19 rfl rfl (any_of HT_.out (by kernel_rfl)) (fun _ _ _ h => h) (Or.inl ⟨by rfl, ?_⟩) ?_ ?_; rotate_left; ·(intro w'; go_simp; with_reducible rfl)
                 rotate_left; ·(simp only [Act.put, sA_, s0_, s1_, i64_w, i32_w]; rfl)
                 refine pure_ (i := 19) (N := some 71) (v := ?_) (a' := ?_) q5_20 rfl rfl (any_of HT_.out (by kernel_rfl)) (fun _ _ _ h => h) (Or.inl ⟨by rfl, ?_⟩) ?_ ?_; rotate_left; ·(intro w'; go_simp; with_reducible rfl)
                 rotate_left; ·(simp only [Act.put, sA_, s0_, s1_, i64_w, i32_w]; rfl)
                 refine pure_ (i := 20) (N := some 72) (v := ?_) (a' := ?_) q5_21 rfl rfl (any_of HT_.out (by kernel_rfl)) (fun _ _ _ h => h) (Or.inl ⟨by rfl, ?_⟩) ?_ ?_; rotate_left; ·(intro w'; go_simp; with_reducible rfl)
                 rotate_left; ·(simp only [Act.put, sA_, s0_, s1_, i64_w, i32_w]; rfl)
                 refine pure_ (i := 22) (N := some 74) (v := ?_) (a' := ?_) #[Y,Y,Y,Y,Y,Y,Y,Y,Y,Y,Y,Y,Y,Y,Y,Y,Y,Y,Y,Y,Y,Z,Y,Z,Z,Z,Z,Z,Z,Z,Z,Z,Z,Z,Z,Z,Z,Z,Z,Z,Z,Z,Z,Z,Z,Z,Z,Z,Z,Z,Z,Z,Z,Z,Z] rfl rfl (any_of HT_.out (by kernel_rfl)) (fun _ _ _ h => h) (Or.inl ⟨by rfl, ?_⟩) ?_ ?_; rotate_left; ·(intro w'; go_simp; with_reducible rfl)
                 rotate_left; ·(simp only [Act.put, sA_, s0_, s1_, i64_w, i32_w]; rfl)
                 refine pure_ (i := 23) (N := some 75) (v := ?_) (a' := ?_) #[Y,Y,Y,Y,Y,Y,Y,Y,Y,Y,Y,Y,Y,Y,Y,Y,Y,Y,Y,Y,Y,Z,Y,Y,Z,Z,Z,Z,Z,Z,Z,Z,Z,Z,Z,Z,Z,Z,Z,Z,Z,Z,Z,Z,Z,Z,Z,Z,Z,Z,Z,Z,Z,Z,Z] rfl rfl (any_of HT_.out (by kernel_rfl)) (fun _ _ _ h => h) (Or.inl ⟨by rfl, ?_⟩) ?_ ?_; rotate_left; ·(intro w'; go_simp; with_reducible rfl)
                 rotate_left; ·(simp only [Act.put, sA_, s0_, s1_, i64_w, i32_w]; rfl)
                 refine pure_ (i := 24) (N := some 76) (v := ?_) (a' := ?_) #[Y,Y,Y,Y,Y,Y,Y,Y,Y,Y,Y,Y,Y,Y,Y,Y,Y,Y,Y,Y,Y,Z,Y,Y,Y,Z,Z,Z,Z,Z,Z,Z,Z,Z,Z,Z,Z,Z,Z,Z,Z,Z,Z,Z,Z,Z,Z,Z,Z,Z,Z,Z,Z,Z,Z] rfl rfl (any_of HT_.out (by kernel_rfl)) (fun _ _ _ h => h) (Or.inl ⟨by rfl, ?_⟩) ?_ ?_; rotate_left; ·(intro w'; go_simp; with_reducible rfl)
                 rotate_left; ·(simp only [Act.put, sA_, s0_, s1_, i64_w, i32_w]; rfl)
                 refine pure_ (i := 25) (N := some 77) (v := ?_) (a' := ?_) #[Y,Y,Y,Y,Y,Y,Y,Y,Y,Y,Y,Y,Y,Y,Y,Y,Y,Y,Y,Y,Y,Z,Y,Y,Y,Y,Z,Z,Z,Z,Z,Z,Z,Z,Z,Z,Z,Z,Z,Z,Z,Z,Z,Z,Z,Z,Z,Z,Z,Z,Z,Z,Z,Z,Z] rfl rfl (any_of HT_.out (by kernel_rfl)) (fun _ _ _ h => h) (Or.inl ⟨by rfl, ?_⟩) ?_ ?_; rotate_left; ·(intro w'; go_simp; with_reducible rfl)
                 rotate_left; ·(simp only [Act.put, sA_, s0_, s1_, i64_w, i32_w]; rfl)
                 refine take_ (i := 21) (N := some 73) (v := ?_) (a' := ?_) q5_22 rfl rfl (take_ofW HT_.out HW_.out (by kernel_rfl)) (fun _ _ _ h => h) (Or.inl ⟨by rfl, ?_⟩) hHeld ?_ ?_; rotate_left; ·(rintro w' ⟨s0, s1, s2, s3, s4, s5, s6, s7, s8, s9, s10, s11, s12, s13⟩; go_simp; with_reducible rfl)
                 rotate_left; ·(simp only [Act.put, sA_, s0_, s1_, i64_w, i32_w]; rfl)
                 refine take_ (i := 26) (N := some 78) (v := ?_) (a' := ?_) q5_23 rfl rfl (take_ofW HT_.out HW_.out (by kernel_rfl)) (fun _ _ _ h => h) (Or.inl ⟨by rfl, ?_⟩) hHeld ?_ ?_; rotate_left; ·(rintro w' ⟨s0, s1, s2, s3, s4, s5, s6, s7, s8, s9, s10, s11, s12, s13⟩; go_simp; with_reducible rfl)
                 rotate_left; ·(simp only [Act.put, sA_, s0_, s1_, i64_w, i32_w]; rfl)
                 refine pure_ (i := 27) (N := some 79) (v := ?_) (a' := ?_) q5_24 rfl rfl (any_of HT_.out (by kernel_rfl)) (fun _ _ _ h => h) (Or.inl ⟨by rfl, ?_⟩) ?_ ?_; rotate_left; ·(intro w'; go_simp; with_reducible rfl)
                 rotate_left; ·(simp only [Act.put, sA_, s0_, s1_, i64_w, i32_w]; rfl)
                 refine pure_ (i := 28) (N := some 80) (v := ?_) (a' := ?_) q5_25 rfl rfl (any_of HT_.out (by kernel_rfl)) (fun _ _ _ h => h) (Or.inl ⟨by rfl, ?_⟩) ?_ ?_; rotate_left; ·(intro w'; go_simp; with_reducible rfl)
                 rotate_left; ·(simp only [Act.put, sA_, s0_, s1_, i64_w, i32_w]; rfl)
                 refine pure_ (i := 29) (N := some 81) (v := ?_) (a' := ?_) q5_26 rfl rfl (any_of HT_.out (by kernel_rfl)) (fun _ _ _ h => h) (Or.inl ⟨by rfl, ?_⟩) ?_ ?_; rotate_left; ·(intro w'; go_simp; with_reducible rfl)
                 rotate_left; ·(simp only [Act.put, sA_, s0_, s1_, i64_w, i32_w]; rfl)
                 refine pure_ (i := 30) (N := some 82) (v := ?_) (a' := ?_) q5_27 rfl rfl (any_of HT_.out (by kernel_rfl)) (fun _ _ _ h => h) (Or.inl ⟨by rfl, ?_⟩) ?_ ?_; rotate_left; ·(intro w'; go_simp; with_reducible rfl)
                 rotate_left; ·(simp only [Act.put, sA_, s0_, s1_, i64_w, i32_w]; rfl)
                 refine pure_ (i := 31) (N := some 83) (v := ?_) (a' := ?_) q5_28 rfl rfl (any_of HT_.out (by kernel_rfl)) (fun _ _ _ h => h) (Or.inl ⟨by rfl, ?_⟩) ?_ ?_; rotate_left; ·(intro w'; go_simp; with_reducible rfl)
                 rotate_left; ·(simp only [Act.put, sA_, s0_, s1_, i64_w, i32_w]; rfl)
                 refine pure_ (i := 32) (N := some 84) (v := ?_) (a' := ?_) q5_29 rfl rfl (any_of HT_.out (by kernel_rfl)) (fun _ _ _ h => h) (Or.inl ⟨by rfl, ?_⟩) ?_ ?_; rotate_left; ·(intro w'; go_simp; with_reducible rfl)
                 rotate_left; ·(simp only [Act.put, sA_, s0_, s1_, i64_w, i32_w]; rfl)
                 refine pure_ (i := 33) (N := some 85) (v := ?_) (a' := ?_) q5_30 rfl rfl (any_of HT_.out (by kernel_rfl)) (fun _ _ _ h => h) (Or.inl ⟨by rfl, ?_⟩) ?_ ?_; rotate_left; ·(intro w'; go_simp; with_reducible rfl)
                 rotate_left; ·(simp only [Act.put, sA_, s0_, s1_, i64_w, i32_w]; rfl)
                 refine pure_ (i := 34) (N := some 86) (v := ?_) (a' := ?_) q5_31 rfl rfl (any_of HT_.out (by kernel_rfl)) (fun _ _ _ h => h) (Or.inl ⟨by rfl, ?_⟩) ?_ ?_; rotate_left; ·(intro w'; go_simp; with_reducible rfl)
                 rotate_left; ·(simp only [Act.put, sA_, s0_, s1_, i64_w, i32_w]; rfl)
                 refine pure_ (i := 39) (N := some 91) (v := ?_) (a' := ?_) q5_32 rfl rfl (any_of HT_.out (by kernel_rfl)) (fun _ _ _ h => h) (Or.inl ⟨by rfl, ?_⟩) ?_ ?_; rotate_left; ·(intro w'; go_simp; with_reducible rfl)
                 rotate_left; ·(simp only [Act.put, sA_, s0_, s1_, i64_w, i32_w]; rfl)
                 refine take_ (i := 35) (N := some 87) (v := ?_) (a' := ?_) q5_33 rfl rfl (take_ofW HT_.out HW_.out (by kernel_rfl)) (fun _ _ _ h => h) (Or.inl ⟨by rfl, ?_⟩) hHeld ?_ ?_; rotate_left; ·(rintro w' ⟨s0, s1, s2, s3, s4, s5, s6, s7, s8, s9, s10, s11, s12, s13⟩; go_simp; with_reducible rfl)
                 rotate_left; ·(simp only [Act.put, sA_, s0_, s1_, i64_w, i32_w]; rfl)
                 refine pure_ (i := 36) (N := some 88) (v := ?_) (a' := ?_) q5_34 rfl rfl (any_of HT_.out (by kernel_rfl)) (fun _ _ _ h => h) (Or.inl ⟨by rfl, ?_⟩) ?_ ?_; rotate_left; ·(intro w'; go_simp; with_reducible rfl)
                 rotate_left; ·(simp only [Act.put, sA_, s0_, s1_, i64_w, i32_w]; rfl)
                 refine pure_ (i := 37) (N := some 89) (v := ?_) (a' := ?_) q5_35 rfl rfl (any_of HT_.out (by kernel_rfl)) (fun _ _ _ h => h) (Or.inl ⟨by rfl, ?_⟩) ?_ ?_; rotate_left; ·(intro w'; go_simp; with_reducible rfl)
                 rotate_left; ·(simp only [Act.put, sA_, s0_, s1_, i64_w, i32_w]; rfl)
                 refine take_ (i := 38) (N := some 90) (v := ?_) (a' := ?_) q5_36 rfl rfl (take_ofW HT_.out HW_.out (by kernel_rfl)) (fun _ _ _ h => h) (Or.inl ⟨by rfl, ?_⟩) hHeld ?_ ?_; rotate_left; ·(rintro w' ⟨s0, s1, s2, s3, s4, s5, s6, s7, s8, s9, s10, s11, s12, s13⟩; go_simp; with_reducible rfl)
                 rotate_left; ·(simp only [Act.put, sA_, s0_, s1_, i64_w, i32_w]; rfl)
                 refine pure_ (i := 40) (N := some 92) (v := ?_) (a' := ?_) q5_37 rfl rfl (any_of HT_.out (by kernel_rfl)) (fun _ _ _ h => h) (Or.inl ⟨by rfl, ?_⟩) ?_ ?_; rotate_left; ·(intro w'; go_simp; with_reducible rfl)
                 rotate_left; ·(simp only [Act.put, sA_, s0_, s1_, i64_w, i32_w]; rfl)
                 refine pure_ (i := 41) (N := some 93) (v := ?_) (a' := ?_) q5_38 rfl rfl (any_of HT_.out (by kernel_rfl)) (fun _ _ _ h => h) (Or.inl ⟨by rfl, ?_⟩) ?_ ?_; rotate_left; ·(intro w'; go_simp; with_reducible rfl)
                 rotate_left; ·(simp only [Act.put, sA_, s0_, s1_, i64_w, i32_w]; rfl)
                 refine pure_ (i := 42) (N := some 94) (v := ?_) (a' := ?_) q5_39 rfl rfl (any_of HT_.out (by kernel_rfl)) (fun _ _ _ h => h) (Or.inl ⟨by rfl, ?_⟩) ?_ ?_; rotate_left; ·(intro w'; go_simp; with_reducible rfl)
                 rotate_left; ·(simp only [Act.put, sA_, s0_, s1_, i64_w, i32_w]; rfl)
                 refine pure_ (i := 43) (N := some 95) (v := ?_) (a' := ?_) q5_40 rfl rfl (any_of HT_.out (by kernel_rfl)) (fun _ _ _ h => h) (Or.inl ⟨by rfl, ?_⟩) ?_ ?_; rotate_left; ·(intro w'; go_simp; with_reducible rfl)
                 rotate_left; ·(simp only [Act.put, sA_, s0_, s1_, i64_w, i32_w]; rfl)
                 refine pure_ (i := 44) (N := some 96) (v := ?_) (a' := ?_) q5_41 rfl rfl (any_of HT_.out (by kernel_rfl)) (fun _ _ _ h => h) (Or.inl ⟨by rfl, ?_⟩) ?_ ?_; rotate_left; ·(intro w'; go_simp; with_reducible rfl)
                 rotate_left; ·(simp only [Act.put, sA_, s0_, s1_, i64_w, i32_w]; rfl)
                 refine pure_ (i := 45) (N := some 97) (v := ?_) (a' := ?_) q5_42 rfl rfl (any_of HT_.out (by kernel_rfl)) (fun _ _ _ h => h) (Or.inl ⟨by rfl, ?_⟩) ?_ ?_; rotate_left; ·(intro w'; go_simp; with_reducible rfl)
                 rotate_left; ·(simp only [Act.put, sA_, s0_, s1_, i64_w, i32_w]; rfl)
                 refine pure_ (i := 46) (N := some 98) (v := ?_) (a' := ?_) q5_43 rfl rfl (any_of HT_.out (by kernel_rfl)) (fun _ _ _ h => h) (Or.inl ⟨by rfl, ?_⟩) ?_ ?_; rotate_left; ·(intro w'; go_simp; with_reducible rfl)
                 rotate_left; ·(simp only [Act.put, sA_, s0_, s1_, i64_w, i32_w]; rfl)
                 refine pure_ (i := 51) (N := some 103) (v := ?_) (a' := ?_) q5_44 rfl rfl (any_of HT_.out (by kernel_rfl)) (fun _ _ _ h => h) (Or.inl ⟨by rfl, ?_⟩) ?_ ?_; rotate_left; ·(intro w'; go_simp; with_reducible rfl)
                 rotate_left; ·(simp only [Act.put, sA_, s0_, s1_, i64_w, i32_w]; rfl)
                 refine take_ (i := 47) (N := some 99) (v := ?_) (a' := ?_) q5_45 rfl rfl (take_ofW HT_.out HW_.out (by kernel_rfl)) (fun _ _ _ h => h) (Or.inl ⟨by rfl, ?_⟩) hHeld ?_ ?_; rotate_left; ·(rintro w' ⟨s0, s1, s2, s3, s4, s5, s6, s7, s8, s9, s10, s11, s12, s13⟩; go_simp; with_reducible rfl)
                 rotate_left; ·(simp only [Act.put, sA_, s0_, s1_, i64_w, i32_w]; rfl)
                 refine pure_ (i := 48) (N := some 100) (v := ?_) (a' := ?_) q5_46 rfl rfl (any_of HT_.out (by kernel_rfl)) (fun _ _ _ h => h) (Or.inl ⟨by rfl, ?_⟩) ?_ ?_; rotate_left; ·(intro w'; go_simp; with_reducible rfl)
                 rotate_left; ·(simp only [Act.put, sA_, s0_, s1_, i64_w, i32_w]; rfl)
                 refine pure_ (i := 49) (N := some 101) (v := ?_) (a' := ?_) q5_47 rfl rfl (any_of HT_.out (by kernel_rfl)) (fun _ _ _ h => h) (Or.inl ⟨by rfl, ?_⟩) ?_ ?_; rotate_left; ·(intro w'; go_simp; with_reducible rfl)
                 rotate_left; ·(simp only [Act.put, sA_, s0_, s1_, i64_w, i32_w]; rfl)
                 refine take_ (i := 50) (N := some 102) (v := ?_) (a' := ?_) q5_48 rfl rfl (take_ofW HT_.out HW_.out (by kernel_rfl)) (fun _ _ _ h => h) (Or.inl ⟨by rfl, ?_⟩) hHeld ?_ ?_; rotate_left; ·(rintro w' ⟨s0, s1, s2, s3, s4, s5, s6, s7, s8, s9, s10, s11, s12, s13⟩; go_simp; with_reducible rfl)
                 rotate_left; ·(simp only [Act.put, sA_, s0_, s1_, i64_w, i32_w]; rfl)
                 refine one_ (i := 52) (N := some 104) q5_49 rfl rfl (one_of HT_.out (by kernel_rfl)) (by decide) (fun K hK => ?_)
                 refine goes_ Try.func22 (by kernel_rfl) rfl #[.string ((rd_T24 l0 (rd t391 x13_1)).f1), .string a2] (by rfl) rfl rfl (by (try simp only [List.map_toArray, List.map_cons, List.map_nil]); first | done | rfl | (simp only [List.length_drop, List.length_take]; rfl)) ?_
                 with_reducible refine (mummerlaw11_sub.calls k1 ((rd_T24 l0 (rd t391 x13_1)).f1) a2 t406 _ A33.out).mono ?_
                 rintro e w35 ⟨rfl, hb⟩
                 have HS0_ := (hb.cell (World.block_lt_of_cell? _ _ (hHeld.1))).trans (hHeld.1)
                 have HS1_ := (hb.cell (World.block_lt_of_cell? _ _ (hHeld.2.1))).trans (hHeld.2.1)
                 have HS2_ := (hb.cell (World.block_lt_of_cell? _ _ (hHeld.2.2.1))).trans (hHeld.2.2.1)
                 have HS3_ := (hb.cell (World.block_lt_of_cell? _ _ (hHeld.2.2.2.1))).trans (hHeld.2.2.2.1)
                 have HS4_ := (hb.cell (World.block_lt_of_cell? _ _ (hHeld.2.2.2.2.1))).trans (hHeld.2.2.2.2.1)
                 have HS9_ := (hb.cell (World.block_lt_of_cell? _ _ (hHeld.2.2.2.2.2.2.2.2.2.1))).trans (hHeld.2.2.2.2.2.2.2.2.2.1)
                 refine ⟨_, rfl, ?_⟩
                 have n0_ := ak (Kd.R_below (by (with_reducible repeat (first | apply Kd.R_alloc | apply Kd.R_drewN | apply Kd.R_drew)); exact HO_7.out) hb)
                 have n1_ := ak (below_step (by repeat (first | (with_reducible first | exact HB.out | apply wA | apply wN | apply wD) | exact HB.out)) hb)
                 clear HO_7 HB
                 have HO_7 := n0_
                 have HB := n1_
                 clear n0_ n1_
                 (try clear hb)
                 (try clear hb2)
                 (try clear hk)
                 (try clear hi)
                 refine hK.out _ _ ⟨HS0_, HS1_, HS2_, HS3_, HS4_, ((HB.out.cell (World.block_lt_of_cell? w _ hw403_0)).trans hw403_0), ((HB.out.cell (World.block_lt_of_cell? w _ hw403_1)).trans hw403_1), ((HB.out.cell (World.block_lt_of_cell? w _ hw403_2)).trans hw403_2), ((HB.out.cell (World.block_lt_of_cell? w _ hw403_3)).trans hw403_3), HS9_, ((HB.out.cell (World.block_lt_of_cell? w _ hw405_0)).trans hw405_0), ((HB.out.cell (World.block_lt_of_cell? w _ hw405_1)).trans hw405_1), ((HB.out.cell (World.block_lt_of_cell? w _ hw405_2)).trans hw405_2), ((HB.out.cell (World.block_lt_of_cell? w _ hw405_3)).trans hw405_3)⟩ (fun hHeld => ?_)
                 clear hK K
                 refine norm_ (a' := ?_) ?_ ?_
                 rotate_left
                 ·show Act.put _ (some 104) _ = _
                  simp only [Act.put, sA_, s0_, s1_, i64_w, i32_w]
                  rfl
                 refine pure_ (i := 53) (N := some 105) (v := ?_) (a' := ?_) q5_50 rfl rfl (any_of HT_.out (by kernel_rfl)) (fun _ _ _ h => h) (Or.inl ⟨by rfl, ?_⟩) ?_ ?_; rotate_left; ·(intro w'; go_simp; with_reducible rfl)
                 rotate_left; ·(simp only [Act.put, sA_, s0_, s1_, i64_w, i32_w]; rfl)
                 refine pure_ (i := 54) (N := some 106) (v := ?_) (a' := ?_) q5_51 rfl rfl (any_of HT_.out (by kernel_rfl)) (fun _ _ _ h => h) (Or.inl ⟨by rfl, ?_⟩) ?_ ?_; rotate_left; ·(intro w'; go_simp; with_reducible rfl)
                 rotate_left; ·(simp only [Act.put, sA_, s0_, s1_, i64_w, i32_w]; rfl)
                 refine done_ (done_of HT_.out (by kernel_rfl)) ?_
                 try go_wp2
                 go_meet
                 case rel => exact ⟨_, (!t406), (by first | rfl | (simp; done) | (simp [*]; done)), H', ⟨by have := HK1.out; first | omega | exact Nat.le_refl _⟩, ⟨by (with_reducible repeat (first | apply Kd.R_alloc | apply Kd.R_drewN | apply Kd.R_drew)); exact HO_7.out⟩, ⟨by repeat (first | (with_reducible first | exact HB.out | apply wA | apply wN | apply wD) | exact HB.out)⟩⟩
                ·rw [if_neg c32] at H
                 have c32b0 : (((rd_T24 l0 (rd t391 x13_1)).f0).toList == a1.toList) = false := beq_eq_false_iff_ne.mpr c32
                 have c32b1 : (((rd_T24 l0 (rd t391 x13_1)).f0).toList != a1.toList) = true := bne_iff_ne.mpr c32
                 exact absurd ((Option.some.inj H).trans hrt.out) (by decide)
               ·rw [if_neg c31] at H
                exact absurd H (by simp)
              ·rw [if_neg c30] at H
               exact absurd H (by simp)
            ·rw [if_neg c28] at H
             exact absurd H (by simp)
           ·rw [if_neg c27] at H
            exact absurd H (by simp)
          ·rw [if_neg c25] at H
           have c25b0 : decide (0 < x13_1) = false := decide_eq_false c25
           clear c25
           by_cases c36 : 0 ≤ (rd t391 x13_1)
           ·rw [if_pos c36] at H
            have c36b0 : decide (0 ≤ (rd t391 x13_1)) = true := decide_eq_true c36
            clear c36
            by_cases c37 : (rd t391 x13_1) < (l0.length : Int)
            ·rw [if_pos c37] at H
             have c37b0 : decide ((rd t391 x13_1) < (l0.length : Int)) = true := decide_eq_true c37
             clear c37
             by_cases c38 : ((rd_T24 l0 (rd t391 x13_1)).f0).toList = a1.toList
             ·rw [if_pos c38] at H
              have c38b0 : (((rd_T24 l0 (rd t391 x13_1)).f0).toList == a1.toList) = true := beq_iff_eq.mpr c38
              have c38b1 : (((rd_T24 l0 (rd t391 x13_1)).f0).toList != a1.toList) = false := bne_eq_false_iff_eq.mpr c38
              clear c38
              replace H := Option.bind_eq_some_iff.mp H
              obtain ⟨t411, A390, H⟩ := H
              replace H : (mummerlaw11_BindsGreatest.j1 k1 l0 a1 a2 t391 t395 t396 x11_1 x12_1 x13_1 (!t411)) = some r := H
              have A39 := ak A390
              clear A390
              have H' := ak H
              clear H
              try go_wp2
              have n0_ := ak (Kd.R_drew HO_7.out)
              have n1_ := ak (wD HB.out)
              clear HO_7 HB
              have HO_7 := n0_
              have HB := n1_
              clear n0_ n1_
              have p398 : 0 ≤ (x13_1 : Int) := of_decide_eq_true (by first | (with_reducible assumption) | assumption)
              have q398 : x13_1 < (t391.length : Int) := of_decide_eq_true (by first | (with_reducible assumption) | assumption)
              obtain ⟨ad398, e398, hx398_0⟩ := Kd.at_int (Kd.R_reads' HO_7.out).2.2 x13_1 p398 q398
              cases e398
              replace p398 := eq_true p398
              replace q398 := eq_true q398
              have p399 : 0 ≤ (x13_1 : Int) := of_decide_eq_true (by first | (with_reducible assumption) | assumption)
              have q399 : x13_1 < (t391.length : Int) := of_decide_eq_true (by first | (with_reducible assumption) | assumption)
              obtain ⟨ad399, e399, hx399_0⟩ := Kd.at_int (Kd.R_reads' HO_7.out).2.2 x13_1 p399 q399
              obtain rfl : ad398 = ad399 := (by injection e399)
              replace p399 := eq_true p399
              replace q399 := eq_true q399
              have p407 : 0 ≤ (x13_1 : Int) := of_decide_eq_true (by first | (with_reducible assumption) | assumption)
              have q407 : x13_1 < (t391.length : Int) := of_decide_eq_true (by first | (with_reducible assumption) | assumption)
              obtain ⟨ad407, e407, hx407_0⟩ := Kd.at_int (Kd.R_reads' HO_7.out).2.2 x13_1 p407 q407
              obtain rfl : ad398 = ad407 := (by injection e407)
              replace p407 := eq_true p407
              replace q407 := eq_true q407
              have p408 : 0 ≤ ((rd t391 x13_1) : Int) := of_decide_eq_true (by first | (with_reducible assumption) | assumption)
              have q408 : (rd t391 x13_1) < (l0.length : Int) := of_decide_eq_true (by first | (with_reducible assumption) | assumption)
              obtain ⟨ad408, e408, hx408_0, hx408_1, hx408_2, hx408_3⟩ := at_T24 HR0.out (rd t391 x13_1) p408 q408
              have hw408_3 := hx408_3
              have hw408_2 := hx408_2
              have hw408_1 := hx408_1
              have hw408_0 := hx408_0
              cases e408
              replace hx408_0 := (HB.out.cell (World.block_lt_of_cell? w _ hx408_0)).trans hx408_0
              replace hx408_1 := (HB.out.cell (World.block_lt_of_cell? w _ hx408_1)).trans hx408_1
              replace hx408_2 := (HB.out.cell (World.block_lt_of_cell? w _ hx408_2)).trans hx408_2
              replace hx408_3 := (HB.out.cell (World.block_lt_of_cell? w _ hx408_3)).trans hx408_3
              replace p408 := eq_true p408
              replace q408 := eq_true q408
              have p409 : 0 ≤ (x13_1 : Int) := of_decide_eq_true (by first | (with_reducible assumption) | assumption)
              have q409 : x13_1 < (t391.length : Int) := of_decide_eq_true (by first | (with_reducible assumption) | assumption)
              obtain ⟨ad409, e409, hx409_0⟩ := Kd.at_int (Kd.R_reads' HO_7.out).2.2 x13_1 p409 q409
              obtain rfl : ad398 = ad409 := (by injection e409)
              replace p409 := eq_true p409
              replace q409 := eq_true q409
              have p410 : 0 ≤ ((rd t391 x13_1) : Int) := of_decide_eq_true (by first | (with_reducible assumption) | assumption)
              have q410 : (rd t391 x13_1) < (l0.length : Int) := of_decide_eq_true (by first | (with_reducible assumption) | assumption)
              obtain ⟨ad410, e410, hx410_0, hx410_1, hx410_2, hx410_3⟩ := at_T24 HR0.out (rd t391 x13_1) p410 q410
              have hw410_3 := hx410_3
              have hw410_2 := hx410_2
              have hw410_1 := hx410_1
              have hw410_0 := hx410_0
              obtain rfl : ad408 = ad410 := (by injection e410)
              replace hx410_0 := (HB.out.cell (World.block_lt_of_cell? w _ hx410_0)).trans hx410_0
              replace hx410_1 := (HB.out.cell (World.block_lt_of_cell? w _ hx410_1)).trans hx410_1
              replace hx410_2 := (HB.out.cell (World.block_lt_of_cell? w _ hx410_2)).trans hx410_2
              replace hx410_3 := (HB.out.cell (World.block_lt_of_cell? w _ hx410_3)).trans hx410_3
              replace p410 := eq_true p410
              replace q410 := eq_true q410
              refine start_ (n := 55) (S := fun w' => w'.cell? (ad398.add (x13_1).toNat) = some (.int .i64 (rd t391 x13_1)) ∧ w'.cell? (ad398.add (x13_1).toNat) = some (.int .i64 (rd t391 x13_1)) ∧ w'.cell? (ad398.add (x13_1).toNat) = some (.int .i64 (rd t391 x13_1)) ∧ w'.cell? (ad408.add (((rd t391 x13_1)).toNat * 4)) = some (.string ((rd_T24 l0 (rd t391 x13_1)).f0)) ∧ w'.cell? ⟨(ad408.add (((rd t391 x13_1)).toNat * 4)).block, (ad408.add (((rd t391 x13_1)).toNat * 4)).off + 1, none⟩ = some (.string ((rd_T24 l0 (rd t391 x13_1)).f1)) ∧ w'.cell? ⟨(ad408.add (((rd t391 x13_1)).toNat * 4)).block, (ad408.add (((rd t391 x13_1)).toNat * 4)).off + 2, none⟩ = some (.int .i64 ((rd_T24 l0 (rd t391 x13_1)).f2)) ∧ w'.cell? ⟨(ad408.add (((rd t391 x13_1)).toNat * 4)).block, (ad408.add (((rd t391 x13_1)).toNat * 4)).off + 3, none⟩ = some (.int .i64 ((rd_T24 l0 (rd t391 x13_1)).f3)) ∧ w'.cell? (ad398.add (x13_1).toNat) = some (.int .i64 (rd t391 x13_1)) ∧ w'.cell? (ad408.add (((rd t391 x13_1)).toNat * 4)) = some (.string ((rd_T24 l0 (rd t391 x13_1)).f0)) ∧ w'.cell? ⟨(ad408.add (((rd t391 x13_1)).toNat * 4)).block, (ad408.add (((rd t391 x13_1)).toNat * 4)).off + 1, none⟩ = some (.string ((rd_T24 l0 (rd t391 x13_1)).f1)) ∧ w'.cell? ⟨(ad408.add (((rd t391 x13_1)).toNat * 4)).block, (ad408.add (((rd t391 x13_1)).toNat * 4)).off + 2, none⟩ = some (.int .i64 ((rd_T24 l0 (rd t391 x13_1)).f2)) ∧ w'.cell? ⟨(ad408.add (((rd t391 x13_1)).toNat * 4)).block, (ad408.add (((rd t391 x13_1)).toNat * 4)).off + 3, none⟩ = some (.int .i64 ((rd_T24 l0 (rd t391 x13_1)).f3))) (ds := []) q5_0 (by kernel_rfl) rfl rfl ⟨hx398_0, hx399_0, hx407_0, ((HB.out.cell (World.block_lt_of_cell? w _ hw408_0)).trans hw408_0), ((HB.out.cell (World.block_lt_of_cell? w _ hw408_1)).trans hw408_1), ((HB.out.cell (World.block_lt_of_cell? w _ hw408_2)).trans hw408_2), ((HB.out.cell (World.block_lt_of_cell? w _ hw408_3)).trans hw408_3), hx409_0, ((HB.out.cell (World.block_lt_of_cell? w _ hw410_0)).trans hw410_0), ((HB.out.cell (World.block_lt_of_cell? w _ hw410_1)).trans hw410_1), ((HB.out.cell (World.block_lt_of_cell? w _ hw410_2)).trans hw410_2), ((HB.out.cell (World.block_lt_of_cell? w _ hw410_3)).trans hw410_3)⟩ (fun hHeld => ?_); refine with_tabW mummerlaw11_BindsGreatest.tab11 mummerlaw11_BindsGreatest.bits11 (fun HT_ HW_ => ?_)
              generalize wr.drew = w40 at HO_7 HB hx398_0 hx399_0 hx407_0 hx408_0 hx408_1 hx408_2 hx408_3 hx409_0 hx410_0 hx410_1 hx410_2 hx410_3 hHeld ⊢
              refine pure_ (i := 0) (N := some 52) (v := ?_) (a' := ?_) q5_1 rfl rfl (any_of HT_.out (by kernel_rfl)) (fun _ _ _ h => h) (Or.inl ⟨by rfl, ?_⟩) ?_ ?_; rotate_left; ·(intro w'; go_simp; with_reducible rfl)
              rotate_left; ·(simp only [Act.put, sA_, s0_, s1_, i64_w, i32_w]; rfl)
              refine pure_ (i := 1) (N := some 53) (v := ?_) (a' := ?_) q5_2 rfl rfl (any_of HT_.out (by kernel_rfl)) (fun _ _ _ h => h) (Or.inl ⟨by rfl, ?_⟩) ?_ ?_; rotate_left; ·(intro w'; go_simp; with_reducible rfl)
              rotate_left; ·(simp only [Act.put, sA_, s0_, s1_, i64_w, i32_w]; rfl)
              refine pure_ (i := 2) (N := some 54) (v := ?_) (a' := ?_) q5_3 rfl rfl (any_of HT_.out (by kernel_rfl)) (fun _ _ _ h => h) (Or.inl ⟨by rfl, ?_⟩) ?_ ?_; rotate_left; ·(intro w'; go_simp; with_reducible rfl)
              rotate_left; ·(simp only [Act.put, sA_, s0_, s1_, i64_w, i32_w]; rfl)
              refine take_ (i := 3) (N := some 55) (v := ?_) (a' := ?_) q5_4 rfl rfl (take_ofW HT_.out HW_.out (by kernel_rfl)) (fun _ _ _ h => h) (Or.inl ⟨by rfl, ?_⟩) hHeld ?_ ?_; rotate_left; ·(rintro w' ⟨s0, s1, s2, s3, s4, s5, s6, s7, s8, s9, s10, s11⟩; go_simp; with_reducible rfl)
              rotate_left; ·(simp only [Act.put, sA_, s0_, s1_, i64_w, i32_w]; rfl)
              refine pure_ (i := 4) (N := some 56) (v := ?_) (a' := ?_) q5_5 rfl rfl (any_of HT_.out (by kernel_rfl)) (fun _ _ _ h => h) (Or.inl ⟨by rfl, ?_⟩) ?_ ?_; rotate_left; ·(intro w'; go_simp; with_reducible rfl)
              rotate_left; ·(simp only [Act.put, sA_, s0_, s1_, i64_w, i32_w]; rfl)
              refine pure_ (i := 5) (N := some 57) (v := ?_) (a' := ?_) q5_6 rfl rfl (any_of HT_.out (by kernel_rfl)) (fun _ _ _ h => h) (Or.inl ⟨by rfl, ?_⟩) ?_ ?_; rotate_left; ·(intro w'; go_simp; with_reducible rfl)
              rotate_left; ·(simp only [Act.put, sA_, s0_, s1_, i64_w, i32_w]; rfl)
              refine pure_ (i := 6) (N := some 58) (v := ?_) (a' := ?_) q5_7 rfl rfl (any_of HT_.out (by kernel_rfl)) (fun _ _ _ h => h) (Or.inl ⟨by rfl, ?_⟩) ?_ ?_; rotate_left; ·(intro w'; go_simp; with_reducible rfl)
              rotate_left; ·(simp only [Act.put, sA_, s0_, s1_, i64_w, i32_w]; rfl)
              refine pure_ (i := 7) (N := some 59) (v := ?_) (a' := ?_) q5_8 rfl rfl (any_of HT_.out (by kernel_rfl)) (fun _ _ _ h => h) (Or.inl ⟨by rfl, ?_⟩) ?_ ?_; rotate_left; ·(intro w'; go_simp; with_reducible rfl)
              rotate_left; ·(simp only [Act.put, sA_, s0_, s1_, i64_w, i32_w]; rfl)
              refine pure_ (i := 8) (N := some 60) (v := ?_) (a' := ?_) q5_9 rfl rfl (any_of HT_.out (by kernel_rfl)) (fun _ _ _ h => h) (Or.inl ⟨by rfl, ?_⟩) ?_ ?_; rotate_left; ·(intro w'; go_simp; with_reducible rfl)
              rotate_left; ·(simp only [Act.put, sA_, s0_, s1_, i64_w, i32_w]; rfl)
              refine pure_ (i := 10) (N := some 62) (v := ?_) (a' := ?_) q5_10 rfl rfl (any_of HT_.out (by kernel_rfl)) (fun _ _ _ h => h) (Or.inl ⟨by rfl, ?_⟩) ?_ ?_; rotate_left; ·(intro w'; go_simp; with_reducible rfl)
              rotate_left; ·(simp only [Act.put, sA_, s0_, s1_, i64_w, i32_w]; rfl)
              refine pure_ (i := 11) (N := some 63) (v := ?_) (a' := ?_) q5_11 rfl rfl (any_of HT_.out (by kernel_rfl)) (fun _ _ _ h => h) (Or.inl ⟨by rfl, ?_⟩) ?_ ?_; rotate_left; ·(intro w'; go_simp; with_reducible rfl)
              rotate_left; ·(simp only [Act.put, sA_, s0_, s1_, i64_w, i32_w]; rfl)
              refine take_ (i := 9) (N := some 61) (v := ?_) (a' := ?_) q5_12 rfl rfl (take_ofW HT_.out HW_.out (by kernel_rfl)) (fun _ _ _ h => h) (Or.inl ⟨by rfl, ?_⟩) hHeld ?_ ?_; rotate_left; ·(rintro w' ⟨s0, s1, s2, s3, s4, s5, s6, s7, s8, s9, s10, s11⟩; go_simp; with_reducible rfl)
              rotate_left; ·(simp only [Act.put, sA_, s0_, s1_, i64_w, i32_w]; rfl)
              refine pure_ (i := 12) (N := some 64) (v := ?_) (a' := ?_) q5_13 rfl rfl (any_of HT_.out (by kernel_rfl)) (fun _ _ _ h => h) (Or.inl ⟨by rfl, ?_⟩) ?_ ?_; rotate_left; ·(intro w'; go_simp; with_reducible rfl)
              rotate_left; ·(simp only [Act.put, sA_, s0_, s1_, i64_w, i32_w]; rfl)
              refine pure_ (i := 13) (N := some 65) (v := ?_) (a' := ?_) q5_14 rfl rfl (any_of HT_.out (by kernel_rfl)) (fun _ _ _ h => h) (Or.inl ⟨by rfl, ?_⟩) ?_ ?_; rotate_left; ·(intro w'; go_simp; with_reducible rfl)
              rotate_left; ·(simp only [Act.put, sA_, s0_, s1_, i64_w, i32_w]; rfl)
              refine pure_ (i := 14) (N := some 66) (v := ?_) (a' := ?_) q5_15 rfl rfl (any_of HT_.out (by kernel_rfl)) (fun _ _ _ h => h) (Or.inl ⟨by rfl, ?_⟩) ?_ ?_; rotate_left; ·(intro w'; go_simp; with_reducible rfl)
              rotate_left; ·(simp only [Act.put, sA_, s0_, s1_, i64_w, i32_w]; rfl)
              refine pure_ (i := 15) (N := some 67) (v := ?_) (a' := ?_) q5_16 rfl rfl (any_of HT_.out (by kernel_rfl)) (fun _ _ _ h => h) (Or.inl ⟨by rfl, ?_⟩) ?_ ?_; rotate_left; ·(intro w'; go_simp; with_reducible rfl)
              rotate_left; ·(simp only [Act.put, sA_, s0_, s1_, i64_w, i32_w]; rfl)
              refine pure_ (i := 16) (N := some 68) (v := ?_) (a' := ?_) q5_17 rfl rfl (any_of HT_.out (by kernel_rfl)) (fun _ _ _ h => h) (Or.inl ⟨by rfl, ?_⟩) ?_ ?_; rotate_left; ·(intro w'; go_simp; with_reducible rfl)
              rotate_left; ·(simp only [Act.put, sA_, s0_, s1_, i64_w, i32_w]; rfl)
              refine pure_ (i := 17) (N := some 69) (v := ?_) (a' := ?_) q5_18 rfl rfl (any_of HT_.out (by kernel_rfl)) (fun _ _ _ h => h) (Or.inl ⟨by rfl, ?_⟩) ?_ ?_; rotate_left; ·(intro w'; go_simp; with_reducible rfl)
              rotate_left; ·(simp only [Act.put, sA_, s0_, s1_, i64_w, i32_w]; rfl)
              refine pure_ (i := 18) (N := some 70) (v := undef) (a' := ?_) q5_19 rfl rfl (any_of HT_.out (by kernel_rfl)) (fun _ _ _ h => h) (Or.inr ⟨by rfl, rfl⟩) ?_ ?_
              rotate_left
              ·simp only [Act.put, sA_, s0_, s1_, i64_w, i32_w]
               rfl
              refine pure_ (i := 19) (N := some 71) (v := undef) (a' := ?_) q5_20 rfl rfl (any_of HT_.out (by kernel_rfl)) (fun _ _ _ h => h) (Or.inr ⟨by rfl, rfl⟩) ?_ ?_
              rotate_left
              ·simp only [Act.put, sA_, s0_, s1_, i64_w, i32_w]
               rfl
              refine pure_ (i := 20) (N := some 72) (v := undef) (a' := ?_) q5_21 rfl rfl (any_of HT_.out (by kernel_rfl)) (fun _ _ _ h => h) (Or.inr ⟨by rfl, rfl⟩) ?_ ?_
              rotate_left
              ·simp only [Act.put, sA_, s0_, s1_, i64_w, i32_w]
               rfl
              refine pure_ (i := 21) (N := some 73) (v := undef) (a' := ?_) #[Y,Y,Y,Y,Y,Y,Y,Y,Y,Y,Y,Y,Y,Y,Y,Y,Y,Y,Y,Y,Y,Y,Z,Z,Z,Z,Z,Z,Z,Z,Z,Z,Z,Z,Z,Z,Z,Z,Z,Z,Z,Z,Z,Z,Z,Z,Z,Z,Z,Z,Z,Z,Z,Z,Z] rfl rfl (any_of HT_.out (by kernel_rfl)) (fun _ _ _ h => h) (Or.inr ⟨by rfl, rfl⟩) ?_ ?_
              rotate_left
              ·simp only [Act.put, sA_, s0_, s1_, i64_w, i32_w]
               rfl
              refine pure_ (i := 22) (N := some 74) (v := undef) (a' := ?_) #[Y,Y,Y,Y,Y,Y,Y,Y,Y,Y,Y,Y,Y,Y,Y,Y,Y,Y,Y,Y,Y,Y,Y,Z,Z,Z,Z,Z,Z,Z,Z,Z,Z,Z,Z,Z,Z,Z,Z,Z,Z,Z,Z,Z,Z,Z,Z,Z,Z,Z,Z,Z,Z,Z,Z] rfl rfl (any_of HT_.out (by kernel_rfl)) (fun _ _ _ h => h) (Or.inr ⟨by rfl, rfl⟩) ?_ ?_
              rotate_left
              ·simp only [Act.put, sA_, s0_, s1_, i64_w, i32_w]
               rfl
              refine pure_ (i := 23) (N := some 75) (v := undef) (a' := ?_) #[Y,Y,Y,Y,Y,Y,Y,Y,Y,Y,Y,Y,Y,Y,Y,Y,Y,Y,Y,Y,Y,Y,Y,Y,Z,Z,Z,Z,Z,Z,Z,Z,Z,Z,Z,Z,Z,Z,Z,Z,Z,Z,Z,Z,Z,Z,Z,Z,Z,Z,Z,Z,Z,Z,Z] rfl rfl (any_of HT_.out (by kernel_rfl)) (fun _ _ _ h => h) (Or.inr ⟨by rfl, rfl⟩) ?_ ?_
              rotate_left
              ·simp only [Act.put, sA_, s0_, s1_, i64_w, i32_w]
               rfl
              refine pure_ (i := 24) (N := some 76) (v := undef) (a' := ?_) #[Y,Y,Y,Y,Y,Y,Y,Y,Y,Y,Y,Y,Y,Y,Y,Y,Y,Y,Y,Y,Y,Y,Y,Y,Y,Z,Z,Z,Z,Z,Z,Z,Z,Z,Z,Z,Z,Z,Z,Z,Z,Z,Z,Z,Z,Z,Z,Z,Z,Z,Z,Z,Z,Z,Z] rfl rfl (any_of HT_.out (by kernel_rfl)) (fun _ _ _ h => h) (Or.inr ⟨by rfl, rfl⟩) ?_ ?_
              rotate_left
              ·simp only [Act.put, sA_, s0_, s1_, i64_w, i32_w]
               rfl
              refine pure_ (i := 25) (N := some 77) (v := undef) (a' := ?_) q5_22 rfl rfl (any_of HT_.out (by kernel_rfl)) (fun _ _ _ h => h) (Or.inr ⟨by rfl, rfl⟩) ?_ ?_
              rotate_left
              ·simp only [Act.put, sA_, s0_, s1_, i64_w, i32_w]
               rfl
              refine pure_ (i := 26) (N := some 78) (v := undef) (a' := ?_) q5_23 rfl rfl (any_of HT_.out (by kernel_rfl)) (fun _ _ _ h => h) (Or.inr ⟨by rfl, rfl⟩) ?_ ?_
              rotate_left
              ·simp only [Act.put, sA_, s0_, s1_, i64_w, i32_w]
               rfl
              refine pure_ (i := 27) (N := some 79) (v := undef) (a' := ?_) q5_24 rfl rfl (any_of HT_.out (by kernel_rfl)) (fun _ _ _ h => h) (Or.inr ⟨by rfl, rfl⟩) ?_ ?_
              rotate_left
              ·simp only [Act.put, sA_, s0_, s1_, i64_w, i32_w]
               rfl
              refine pure_ (i := 28) (N := some 80) (v := ?_) (a' := ?_) q5_25 rfl rfl (any_of HT_.out (by kernel_rfl)) (fun _ _ _ h => h) (Or.inl ⟨by rfl, ?_⟩) ?_ ?_; rotate_left; ·(intro w'; go_simp; with_reducible rfl)
              rotate_left; ·(simp only [Act.put, sA_, s0_, s1_, i64_w, i32_w]; rfl)
              refine pure_ (i := 29) (N := some 81) (v := ?_) (a' := ?_) q5_26 rfl rfl (any_of HT_.out (by kernel_rfl)) (fun _ _ _ h => h) (Or.inl ⟨by rfl, ?_⟩) ?_ ?_; rotate_left; ·(intro w'; go_simp; with_reducible rfl)
              rotate_left; ·(simp only [Act.put, sA_, s0_, s1_, i64_w, i32_w]; rfl)
              refine pure_ (i := 30) (N := some 82) (v := ?_) (a' := ?_) q5_27 rfl rfl (any_of HT_.out (by kernel_rfl)) (fun _ _ _ h => h) (Or.inl ⟨by rfl, ?_⟩) ?_ ?_; rotate_left; ·(intro w'; go_simp; with_reducible rfl)
              rotate_left; ·(simp only [Act.put, sA_, s0_, s1_, i64_w, i32_w]; rfl)
              refine pure_ (i := 31) (N := some 83) (v := ?_) (a' := ?_) q5_28 rfl rfl (any_of HT_.out (by kernel_rfl)) (fun _ _ _ h => h) (Or.inl ⟨by rfl, ?_⟩) ?_ ?_; rotate_left; ·(intro w'; go_simp; with_reducible rfl)
              rotate_left; ·(simp only [Act.put, sA_, s0_, s1_, i64_w, i32_w]; rfl)
              refine pure_ (i := 32) (N := some 84) (v := ?_) (a' := ?_) q5_29 rfl rfl (any_of HT_.out (by kernel_rfl)) (fun _ _ _ h => h) (Or.inl ⟨by rfl, ?_⟩) ?_ ?_; rotate_left; ·(intro w'; go_simp; with_reducible rfl)
              rotate_left; ·(simp only [Act.put, sA_, s0_, s1_, i64_w, i32_w]; rfl)
              refine pure_ (i := 33) (N := some 85) (v := ?_) (a' := ?_) q5_30 rfl rfl (any_of HT_.out (by kernel_rfl)) (fun _ _ _ h => h) (Or.inl ⟨by rfl, ?_⟩) ?_ ?_; rotate_left; ·(intro w'; go_simp; with_reducible rfl)
              rotate_left; ·(simp only [Act.put, sA_, s0_, s1_, i64_w, i32_w]; rfl)
              refine pure_ (i := 34) (N := some 86) (v := ?_) (a' := ?_) q5_31 rfl rfl (any_of HT_.out (by kernel_rfl)) (fun _ _ _ h => h) (Or.inl ⟨by rfl, ?_⟩) ?_ ?_; rotate_left; ·(intro w'; go_simp; with_reducible rfl)
              rotate_left; ·(simp only [Act.put, sA_, s0_, s1_, i64_w, i32_w]; rfl)
              refine pure_ (i := 39) (N := some 91) (v := ?_) (a' := ?_) q5_32 rfl rfl (any_of HT_.out (by kernel_rfl)) (fun _ _ _ h => h) (Or.inl ⟨by rfl, ?_⟩) ?_ ?_; rotate_left; ·(intro w'; go_simp; with_reducible rfl)
              rotate_left; ·(simp only [Act.put, sA_, s0_, s1_, i64_w, i32_w]; rfl)
              refine take_ (i := 35) (N := some 87) (v := ?_) (a' := ?_) q5_33 rfl rfl (take_ofW HT_.out HW_.out (by kernel_rfl)) (fun _ _ _ h => h) (Or.inl ⟨by rfl, ?_⟩) hHeld ?_ ?_; rotate_left; ·(rintro w' ⟨s0, s1, s2, s3, s4, s5, s6, s7, s8, s9, s10, s11⟩; go_simp; with_reducible rfl)
              rotate_left; ·(simp only [Act.put, sA_, s0_, s1_, i64_w, i32_w]; rfl)
              refine pure_ (i := 36) (N := some 88) (v := ?_) (a' := ?_) q5_34 rfl rfl (any_of HT_.out (by kernel_rfl)) (fun _ _ _ h => h) (Or.inl ⟨by rfl, ?_⟩) ?_ ?_; rotate_left; ·(intro w'; go_simp; with_reducible rfl)
              rotate_left; ·(simp only [Act.put, sA_, s0_, s1_, i64_w, i32_w]; rfl)
              refine pure_ (i := 37) (N := some 89) (v := ?_) (a' := ?_) q5_35 rfl rfl (any_of HT_.out (by kernel_rfl)) (fun _ _ _ h => h) (Or.inl ⟨by rfl, ?_⟩) ?_ ?_; rotate_left; ·(intro w'; go_simp; with_reducible rfl)
              rotate_left; ·(simp only [Act.put, sA_, s0_, s1_, i64_w, i32_w]; rfl)
              refine take_ (i := 38) (N := some 90) (v := ?_) (a' := ?_) q5_36 rfl rfl (take_ofW HT_.out HW_.out (by kernel_rfl)) (fun _ _ _ h => h) (Or.inl ⟨by rfl, ?_⟩) hHeld ?_ ?_; rotate_left; ·(rintro w' ⟨s0, s1, s2, s3, s4, s5, s6, s7, s8, s9, s10, s11⟩; go_simp; with_reducible rfl)
              rotate_left; ·(simp only [Act.put, sA_, s0_, s1_, i64_w, i32_w]; rfl)
              refine pure_ (i := 40) (N := some 92) (v := ?_) (a' := ?_) q5_37 rfl rfl (any_of HT_.out (by kernel_rfl)) (fun _ _ _ h => h) (Or.inl ⟨by rfl, ?_⟩) ?_ ?_; rotate_left; ·(intro w'; go_simp; with_reducible rfl)
              rotate_left; ·(simp only [Act.put, sA_, s0_, s1_, i64_w, i32_w]; rfl)
              refine pure_ (i := 41) (N := some 93) (v := ?_) (a' := ?_) q5_38 rfl rfl (any_of HT_.out (by kernel_rfl)) (fun _ _ _ h => h) (Or.inl ⟨by rfl, ?_⟩) ?_ ?_; rotate_left; ·(intro w'; go_simp; with_reducible rfl)
              rotate_left; ·(simp only [Act.put, sA_, s0_, s1_, i64_w, i32_w]; rfl)
              refine pure_ (i := 42) (N := some 94) (v := ?_) (a' := ?_) q5_39 rfl rfl (any_of HT_.out (by kernel_rfl)) (fun _ _ _ h => h) (Or.inl ⟨by rfl, ?_⟩) ?_ ?_; rotate_left; ·(intro w'; go_simp; with_reducible rfl)
              rotate_left; ·(simp only [Act.put, sA_, s0_, s1_, i64_w, i32_w]; rfl)
              refine pure_ (i := 43) (N := some 95) (v := ?_) (a' := ?_) q5_40 rfl rfl (any_of HT_.out (by kernel_rfl)) (fun _ _ _ h => h) (Or.inl ⟨by rfl, ?_⟩) ?_ ?_; rotate_left; ·(intro w'; go_simp; with_reducible rfl)
              rotate_left; ·(simp only [Act.put, sA_, s0_, s1_, i64_w, i32_w]; rfl)
              refine pure_ (i := 44) (N := some 96) (v := ?_) (a' := ?_) q5_41 rfl rfl (any_of HT_.out (by kernel_rfl)) (fun _ _ _ h => h) (Or.inl ⟨by rfl, ?_⟩) ?_ ?_; rotate_left; ·(intro w'; go_simp; with_reducible rfl)
              rotate_left; ·(simp only [Act.put, sA_, s0_, s1_, i64_w, i32_w]; rfl)
              refine pure_ (i := 45) (N := some 97) (v := ?_) (a' := ?_) q5_42 rfl rfl (any_of HT_.out (by kernel_rfl)) (fun _ _ _ h => h) (Or.inl ⟨by rfl, ?_⟩) ?_ ?_; rotate_left; ·(intro w'; go_simp; with_reducible rfl)
              rotate_left; ·(simp only [Act.put, sA_, s0_, s1_, i64_w, i32_w]; rfl)
              refine pure_ (i := 46) (N := some 98) (v := ?_) (a' := ?_) q5_43 rfl rfl (any_of HT_.out (by kernel_rfl)) (fun _ _ _ h => h) (Or.inl ⟨by rfl, ?_⟩) ?_ ?_; rotate_left; ·(intro w'; go_simp; with_reducible rfl)
              rotate_left; ·(simp only [Act.put, sA_, s0_, s1_, i64_w, i32_w]; rfl)
              refine pure_ (i := 51) (N := some 103) (v := ?_) (a' := ?_) q5_44 rfl rfl (any_of HT_.out (by kernel_rfl)) (fun _ _ _ h => h) (Or.inl ⟨by rfl, ?_⟩) ?_ ?_; rotate_left; ·(intro w'; go_simp; with_reducible rfl)
              rotate_left; ·(simp only [Act.put, sA_, s0_, s1_, i64_w, i32_w]; rfl)
              refine take_ (i := 47) (N := some 99) (v := ?_) (a' := ?_) q5_45 rfl rfl (take_ofW HT_.out HW_.out (by kernel_rfl)) (fun _ _ _ h => h) (Or.inl ⟨by rfl, ?_⟩) hHeld ?_ ?_; rotate_left; ·(rintro w' ⟨s0, s1, s2, s3, s4, s5, s6, s7, s8, s9, s10, s11⟩; go_simp; with_reducible rfl)
              rotate_left; ·(simp only [Act.put, sA_, s0_, s1_, i64_w, i32_w]; rfl)
              refine pure_ (i := 48) (N := some 100) (v := ?_) (a' := ?_) q5_46 rfl rfl (any_of HT_.out (by kernel_rfl)) (fun _ _ _ h => h) (Or.inl ⟨by rfl, ?_⟩) ?_ ?_; rotate_left; ·(intro w'; go_simp; with_reducible rfl)
              rotate_left; ·(simp only [Act.put, sA_, s0_, s1_, i64_w, i32_w]; rfl)
              refine pure_ (i := 49) (N := some 101) (v := ?_) (a' := ?_) q5_47 rfl rfl (any_of HT_.out (by kernel_rfl)) (fun _ _ _ h => h) (Or.inl ⟨by rfl, ?_⟩) ?_ ?_; rotate_left; ·(intro w'; go_simp; with_reducible rfl)
              rotate_left; ·(simp only [Act.put, sA_, s0_, s1_, i64_w, i32_w]; rfl)
              refine take_ (i := 50) (N := some 102) (v := ?_) (a' := ?_) q5_48 rfl rfl (take_ofW HT_.out HW_.out (by kernel_rfl)) (fun _ _ _ h => h) (Or.inl ⟨by rfl, ?_⟩) hHeld ?_ ?_; rotate_left; ·(rintro w' ⟨s0, s1, s2, s3, s4, s5, s6, s7, s8, s9, s10, s11⟩; go_simp; with_reducible rfl)
              rotate_left; ·(simp only [Act.put, sA_, s0_, s1_, i64_w, i32_w]; rfl)
              refine one_ (i := 52) (N := some 104) q5_49 rfl rfl (one_of HT_.out (by kernel_rfl)) (by decide) (fun K hK => ?_)
              refine goes_ Try.func22 (by kernel_rfl) rfl #[.string ((rd_T24 l0 (rd t391 x13_1)).f1), .string a2] (by rfl) rfl rfl (by (try simp only [List.map_toArray, List.map_cons, List.map_nil]); first | done | rfl | (simp only [List.length_drop, List.length_take]; rfl)) ?_
              with_reducible refine (mummerlaw11_sub.calls k1 ((rd_T24 l0 (rd t391 x13_1)).f1) a2 t411 _ A39.out).mono ?_
              rintro e w41 ⟨rfl, hb⟩
              have HS0_ := (hb.cell (World.block_lt_of_cell? _ _ (hHeld.1))).trans (hHeld.1)
              have HS1_ := (hb.cell (World.block_lt_of_cell? _ _ (hHeld.2.1))).trans (hHeld.2.1)
              have HS2_ := (hb.cell (World.block_lt_of_cell? _ _ (hHeld.2.2.1))).trans (hHeld.2.2.1)
              have HS7_ := (hb.cell (World.block_lt_of_cell? _ _ (hHeld.2.2.2.2.2.2.2.1))).trans (hHeld.2.2.2.2.2.2.2.1)
              refine ⟨_, rfl, ?_⟩
              have n0_ := ak (Kd.R_below (by (with_reducible repeat (first | apply Kd.R_alloc | apply Kd.R_drewN | apply Kd.R_drew)); exact HO_7.out) hb)
              have n1_ := ak (below_step (by repeat (first | (with_reducible first | exact HB.out | apply wA | apply wN | apply wD) | exact HB.out)) hb)
              clear HO_7 HB
              have HO_7 := n0_
              have HB := n1_
              clear n0_ n1_
              (try clear hb)
              (try clear hb2)
              (try clear hk)
              (try clear hi)
              refine hK.out _ _ ⟨HS0_, HS1_, HS2_, ((HB.out.cell (World.block_lt_of_cell? w _ hw408_0)).trans hw408_0), ((HB.out.cell (World.block_lt_of_cell? w _ hw408_1)).trans hw408_1), ((HB.out.cell (World.block_lt_of_cell? w _ hw408_2)).trans hw408_2), ((HB.out.cell (World.block_lt_of_cell? w _ hw408_3)).trans hw408_3), HS7_, ((HB.out.cell (World.block_lt_of_cell? w _ hw410_0)).trans hw410_0), ((HB.out.cell (World.block_lt_of_cell? w _ hw410_1)).trans hw410_1), ((HB.out.cell (World.block_lt_of_cell? w _ hw410_2)).trans hw410_2), ((HB.out.cell (World.block_lt_of_cell? w _ hw410_3)).trans hw410_3)⟩ (fun hHeld => ?_)
              clear hK K
              refine norm_ (a' := ?_) ?_ ?_
              rotate_left
              ·show Act.put _ (some 104) _ = _
               simp only [Act.put, sA_, s0_, s1_, i64_w, i32_w]
               rfl
              refine pure_ (i := 53) (N := some 105) (v := ?_) (a' := ?_) q5_50 rfl rfl (any_of HT_.out (by kernel_rfl)) (fun _ _ _ h => h) (Or.inl ⟨by rfl, ?_⟩) ?_ ?_; rotate_left; ·(intro w'; go_simp; with_reducible rfl)
              rotate_left; ·(simp only [Act.put, sA_, s0_, s1_, i64_w, i32_w]; rfl)
              refine pure_ (i := 54) (N := some 106) (v := ?_) (a' := ?_) q5_51 rfl rfl (any_of HT_.out (by kernel_rfl)) (fun _ _ _ h => h) (Or.inl ⟨by rfl, ?_⟩) ?_ ?_; rotate_left; ·(intro w'; go_simp; with_reducible rfl)
              rotate_left; ·(simp only [Act.put, sA_, s0_, s1_, i64_w, i32_w]; rfl)
              refine done_ (done_of HT_.out (by kernel_rfl)) ?_
              try go_wp2
              go_meet
              case rel => exact ⟨_, (!t411), (by first | rfl | (simp; done) | (simp [*]; done)), H', ⟨by have := HK1.out; first | omega | exact Nat.le_refl _⟩, ⟨by (with_reducible repeat (first | apply Kd.R_alloc | apply Kd.R_drewN | apply Kd.R_drew)); exact HO_7.out⟩, ⟨by repeat (first | (with_reducible first | exact HB.out | apply wA | apply wN | apply wD) | exact HB.out)⟩⟩
             ·rw [if_neg c38] at H
              have c38b0 : (((rd_T24 l0 (rd t391 x13_1)).f0).toList == a1.toList) = false := beq_eq_false_iff_ne.mpr c38
              have c38b1 : (((rd_T24 l0 (rd t391 x13_1)).f0).toList != a1.toList) = true := bne_iff_ne.mpr c38
              exact absurd ((Option.some.inj H).trans hrt.out) (by decide)
            ·rw [if_neg c37] at H
             exact absurd H (by simp)
           ·rw [if_neg c36] at H
            exact absurd H (by simp)
       ·rw [if_neg c22] at H
        exact absurd H (by simp)
      case rest =>
       clear HC20
       try clear c2
       try clear p2
       try clear c3
       try clear p3
       try clear q3
       try clear hx3
       try clear p4
       try clear q4
       try clear hx4
       try clear c22
       try clear c25
       try clear c25b0
       try clear c27
       try clear c28
       try clear c30
       try clear c31
       try clear c32
       try clear c32b0
       try clear c32b1
       try clear c36
       try clear c36b0
       try clear c37
       try clear c37b0
       try clear c38
       try clear c38b0
       try clear c38b1
       try clear p39
       try clear q39
       try clear hx39
       try clear p40
       try clear q40
       try clear hx40
       try clear p41
       try clear q41
       try clear hx41
       try clear hx398_0
       try clear hx399_0
       try clear hx407_0
       try clear hx408_0
       try clear hx408_1
       try clear hx408_2
       try clear hx408_3
       try clear hx409_0
       try clear hx410_0
       try clear hx410_1
       try clear hx410_2
       try clear hx410_3
       try clear p398
       try clear p399
       try clear p407
       try clear p408
       try clear p409
       try clear p410
       try clear q398
       try clear q399
       try clear q407
       try clear q408
       try clear q409
       try clear q410
       obtain ⟨kq, x106_19, rfl, HA, HJ19, HO_7, HB⟩ := hcut
       cases kq with
       | zero => exact absurd HA.out (by simp [mummerlaw11_BindsGreatest.j1])
       | succ kj19 =>
        have H := HA.out
        clear HA
        simp only [mummerlaw11_BindsGreatest.j1] at H
        by_cases c42 : x106_19 = true
        ·subst c42
         have H1 : (some false) = some r := by rw [if_pos rfl] at H; exact H
         clear H
         have H := H1
         clear H1
         exact absurd ((Option.some.inj H).trans hrt.out) (by decide)
        ·replace c42 := Bool.eq_false_iff.mpr c42
         subst c42
         have H1 : (if x11_1 = true then (mummerlaw11_BindsGreatest.j2 kj19 l0 a1 a2 t391 t395 t396 true x12_1 x13_1) else (if 0 ≤ x13_1 then (if x13_1 < (t391.length : Int) then (mummerlaw11_BindsGreatest.j2 kj19 l0 a1 a2 t391 t395 t396 ((rd t391 x13_1) == t395) x12_1 x13_1) else (none)) else (none))) = some r := by rw [if_neg (show ¬ (false = true) by decide)] at H; exact H
         clear H
         have H := H1
         clear H1
         have HC43 := ak H
         clear H
         go_upto_region 13 with (fail)
         go_cut [11] (fun v11 wc => ∃ (kq : Nat) (x11_42 : Bool), v11 = .bool x11_42 ∧ Aside0 (mummerlaw11_BindsGreatest.j2 kq l0 a1 a2 t391 t395 t396 x11_42 x12_1 x13_1 = some r) ∧ Aside0 (kq ≤ kj19) ∧ Aside0 (Kd.R (Kd.int .i64) 3 wc w.heap.size (fun _ => True) (.slice Ao21 t391.length co21) t391) ∧ Aside0 (Below w.heap.size w wc))
         case first =>
          have H := HC43.out
          clear HC43
          by_cases c44 : x11_1 = true
          ·subst c44
           have H1 : (mummerlaw11_BindsGreatest.j2 kj19 l0 a1 a2 t391 t395 t396 true x12_1 x13_1) = some r := by rw [if_pos rfl] at H; exact H
           clear H
           have H := H1
           clear H1
           have H' := ak H
           clear H
           go_wp2
           go_meet
           case rel => exact ⟨_, (true), (by first | rfl | (simp; done) | (simp [*]; done)), H', ⟨by have := HK1.out; have := HJ19.out; first | omega | exact Nat.le_refl _⟩, ⟨by (with_reducible repeat (first | apply Kd.R_alloc | apply Kd.R_drewN | apply Kd.R_drew)); exact HO_7.out⟩, ⟨by repeat (first | (with_reducible first | exact HB.out | apply wA | apply wN | apply wD) | exact HB.out)⟩⟩
          ·replace c44 := Bool.eq_false_iff.mpr c44
           subst c44
           have H1 : (if 0 ≤ x13_1 then (if x13_1 < (t391.length : Int) then (mummerlaw11_BindsGreatest.j2 kj19 l0 a1 a2 t391 t395 t396 ((rd t391 x13_1) == t395) x12_1 x13_1) else (none)) else (none)) = some r := by rw [if_neg (show ¬ (false = true) by decide)] at H; exact H
           clear H
           have H := H1
           clear H1
           by_cases c45 : 0 ≤ x13_1
           ·rw [if_pos c45] at H
            have c45b0 : decide (0 ≤ x13_1) = true := decide_eq_true c45
            clear c45
            (first | rw [c45b0] | (simp only [i64_w, i32_w]; rw [c45b0]) | skip)
            by_cases c46 : x13_1 < (t391.length : Int)
            ·rw [if_pos c46] at H
             have c46b0 : decide (x13_1 < (t391.length : Int)) = true := decide_eq_true c46
             clear c46
             have H' := ak H
             clear H
             have p412 : 0 ≤ (x13_1 : Int) := of_decide_eq_true (by first | (with_reducible assumption) | assumption)
             have q412 : x13_1 < (t391.length : Int) := of_decide_eq_true (by first | (with_reducible assumption) | assumption)
             obtain ⟨ad412, e412, hx412_0⟩ := Kd.at_int (Kd.R_reads' HO_7.out).2.2 x13_1 p412 q412
             cases e412
             replace p412 := eq_true p412
             replace q412 := eq_true q412
             go_wp2
             go_meet
             case rel => exact ⟨_, (((rd t391 x13_1) == t395)), (by first | rfl | (simp; done) | (simp [*]; done)), H', ⟨by have := HK1.out; have := HJ19.out; first | omega | exact Nat.le_refl _⟩, ⟨by (with_reducible repeat (first | apply Kd.R_alloc | apply Kd.R_drewN | apply Kd.R_drew)); exact HO_7.out⟩, ⟨by repeat (first | (with_reducible first | exact HB.out | apply wA | apply wN | apply wD) | exact HB.out)⟩⟩
            ·rw [if_neg c46] at H
             exact absurd H (by simp)
           ·rw [if_neg c45] at H
            exact absurd H (by simp)
         case rest =>
          clear HC43
          try clear c2
          try clear p2
          try clear c3
          try clear p3
          try clear q3
          try clear hx3
          try clear c4
          try clear p4
          try clear q4
          try clear hx4
          try clear c22
          try clear c25
          try clear c25b0
          try clear c27
          try clear c28
          try clear c30
          try clear c31
          try clear c32
          try clear c32b0
          try clear c32b1
          try clear c36
          try clear c36b0
          try clear c37
          try clear c37b0
          try clear c38
          try clear c38b0
          try clear c38b1
          try clear p39
          try clear q39
          try clear hx39
          try clear p40
          try clear q40
          try clear hx40
          try clear p41
          try clear q41
          try clear hx41
          try clear c42
          try clear c44
          try clear c45
          try clear c45b0
          try clear c46
          try clear c46b0
          try clear hx398_0
          try clear hx399_0
          try clear hx407_0
          try clear hx408_0
          try clear hx408_1
          try clear hx408_2
          try clear hx408_3
          try clear hx409_0
          try clear hx410_0
          try clear hx410_1
          try clear hx410_2
          try clear hx410_3
          try clear hx412_0
          try clear p2
          try clear p3
          try clear p39
          try clear p398
          try clear p399
          try clear p4
          try clear p40
          try clear p407
          try clear p408
          try clear p409
          try clear p41
          try clear p410
          try clear p412
          try clear q3
          try clear q39
          try clear q398
          try clear q399
          try clear q4
          try clear q40
          try clear q407
          try clear q408
          try clear q409
          try clear q41
          try clear q410
          try clear q412
          obtain ⟨kq, x11_42, rfl, HA, HJ42, HO_7, HB⟩ := hcut
          cases kq with
          | zero => exact absurd HA.out (by simp [mummerlaw11_BindsGreatest.j2])
          | succ kj42 =>
           have H := HA.out
           clear HA
           simp only [mummerlaw11_BindsGreatest.j2] at H
           have H' := ak H
           clear H
           go_wp2
           go_loopg [12, 14] kj42 (fun kq v12 v14 w' => ∃ (x12_4 : Bool) (x14_4 : Int), v12 = .bool x12_4 ∧ v14 = .int .i64 x14_4 ∧ Aside0 (mummerlaw11_BindsGreatest.l1 kq l0 a1 a2 t391 t395 t396 x11_42 x12_4 x13_1 x14_4 = some r) ∧ Aside0 (kq ≤ kj42) ∧ Aside0 (Kd.R (Kd.int .i64) 3 w' w.heap.size (fun _ => True) (.slice Ao21 t391.length co21) t391) ∧ Aside0 (Below w.heap.size w w'))
           case atStart => exact ⟨(x12_1), (0), (by first | rfl | (simp; done) | (simp [*]; done)), (by first | rfl | (simp; done) | (simp [*]; done)), H', ⟨Nat.le_refl _⟩, ⟨by (with_reducible repeat (first | apply Kd.R_alloc | apply Kd.R_drewN | apply Kd.R_drew)); exact HO_7.out⟩, ⟨by repeat (first | (with_reducible first | exact HB.out | apply wA | apply wN | apply wD) | exact HB.out)⟩⟩
           case round =>
            clear H'
            try clear c2
            try clear p2
            try clear c3
            try clear p3
            try clear q3
            try clear hx3
            try clear c4
            try clear p4
            try clear q4
            try clear hx4
            try clear c22
            try clear c25
            try clear c25b0
            try clear c27
            try clear c28
            try clear c30
            try clear c31
            try clear c32
            try clear c32b0
            try clear c32b1
            try clear c36
            try clear c36b0
            try clear c37
            try clear c37b0
            try clear c38
            try clear c38b0
            try clear c38b1
            try clear p39
            try clear q39
            try clear hx39
            try clear p40
            try clear q40
            try clear hx40
            try clear p41
            try clear q41
            try clear hx41
            try clear c42
            try clear c44
            try clear c45
            try clear c45b0
            try clear c46
            try clear c46b0
            try clear hx398_0
            try clear hx399_0
            try clear hx407_0
            try clear hx408_0
            try clear hx408_1
            try clear hx408_2
            try clear hx408_3
            try clear hx409_0
            try clear hx410_0
            try clear hx410_1
            try clear hx410_2
            try clear hx410_3
            try clear hx412_0
            try clear p2
            try clear p3
            try clear p39
            try clear p398
            try clear p399
            try clear p4
            try clear p40
            try clear p407
            try clear p408
            try clear p409
            try clear p41
            try clear p410
            try clear p412
            try clear q3
            try clear q39
            try clear q398
            try clear q399
            try clear q4
            try clear q40
            try clear q407
            try clear q408
            try clear q409
            try clear q41
            try clear q410
            try clear q412
            obtain ⟨x12_4, x14_4, rfl, rfl, HA, HK4, HO_7, HB⟩ := hrel
            cases gk with
            | zero => exact absurd HA.out (by simp [mummerlaw11_BindsGreatest.l1])
            | succ k4 =>
             have H := HA.out
             clear HA
             simp only [mummerlaw11_BindsGreatest.l1] at H
             by_cases c47 : x14_4 < x13_1
             ·rw [if_pos c47] at H
              have c47b0 : decide (x14_4 < x13_1) = true := decide_eq_true c47
              clear c47
              by_cases c48 : x12_4 = true
              ·subst c48
               have H1 : (mummerlaw11_BindsGreatest.l1 k4 l0 a1 a2 t391 t395 t396 x11_42 true x13_1 (wrap64 (x14_4 + 1))) = some r := by rw [if_pos rfl] at H; exact H
               clear H
               have H := H1
               clear H1
               have H' := ak H
               clear H
               try go_wp2
               have n0_ := ak (Kd.R_drew HO_7.out)
               have n1_ := ak (wD HB.out)
               clear HO_7 HB
               have HO_7 := n0_
               have HB := n1_
               clear n0_ n1_
               refine start_ (n := 42) (S := fun w' => True) (ds := []) q5_52 (by kernel_rfl) rfl rfl trivial (fun hHeld => ?_); refine with_tabW mummerlaw11_BindsGreatest.tab17 mummerlaw11_BindsGreatest.bits17 (fun HT_ HW_ => ?_)
               generalize wr.drew = w49 at HO_7 HB hHeld ⊢
               refine pure_ (i := 0) (N := some 121) (v := ?_) (a' := ?_) q5_53 rfl rfl (any_of HT_.out (by kernel_rfl)) (fun _ _ _ h => h) (Or.inl ⟨by rfl, ?_⟩) ?_ ?_; rotate_left; ·(intro w'; go_simp; with_reducible rfl)
               rotate_left; ·(simp only [Act.put, sA_, s0_, s1_, i64_w, i32_w]; rfl)
               refine pure_ (i := 1) (N := some 122) (v := ?_) (a' := ?_) q5_54 rfl rfl (any_of HT_.out (by kernel_rfl)) (fun _ _ _ h => h) (Or.inl ⟨by rfl, ?_⟩) ?_ ?_; rotate_left; ·(intro w'; go_simp; with_reducible rfl)
               rotate_left; ·(simp only [Act.put, sA_, s0_, s1_, i64_w, i32_w]; rfl)
               refine pure_ (i := 2) (N := some 123) (v := undef) (a' := ?_) q5_55 rfl rfl (any_of HT_.out (by kernel_rfl)) (fun _ _ _ h => h) (Or.inr ⟨by rfl, rfl⟩) ?_ ?_
               rotate_left
               ·simp only [Act.put, sA_, s0_, s1_, i64_w, i32_w]
                rfl
               refine pure_ (i := 3) (N := some 124) (v := undef) (a' := ?_) q5_56 rfl rfl (any_of HT_.out (by kernel_rfl)) (fun _ _ _ h => h) (Or.inr ⟨by rfl, rfl⟩) ?_ ?_
               rotate_left
               ·simp only [Act.put, sA_, s0_, s1_, i64_w, i32_w]
                rfl
               refine pure_ (i := 4) (N := some 125) (v := undef) (a' := ?_) q5_57 rfl rfl (any_of HT_.out (by kernel_rfl)) (fun _ _ _ h => h) (Or.inr ⟨by rfl, rfl⟩) ?_ ?_
               rotate_left
               ·simp only [Act.put, sA_, s0_, s1_, i64_w, i32_w]
                rfl
               refine pure_ (i := 5) (N := some 126) (v := undef) (a' := ?_) q5_58 rfl rfl (any_of HT_.out (by kernel_rfl)) (fun _ _ _ h => h) (Or.inr ⟨by rfl, rfl⟩) ?_ ?_
               rotate_left
               ·simp only [Act.put, sA_, s0_, s1_, i64_w, i32_w]
                rfl
               refine pure_ (i := 6) (N := some 127) (v := undef) (a' := ?_) #[Y,Y,Y,Y,Y,Y,Y,Z,Z,Z,Z,Z,Z,Z,Z,Z,Z,Z,Z,Z,Z,Z,Z,Z,Z,Z,Z,Z,Z,Z,Z,Z,Z,Z,Z,Z,Z,Z,Z,Z,Z,Z] rfl rfl (any_of HT_.out (by kernel_rfl)) (fun _ _ _ h => h) (Or.inr ⟨by rfl, rfl⟩) ?_ ?_
               rotate_left
               ·simp only [Act.put, sA_, s0_, s1_, i64_w, i32_w]
                rfl
               refine pure_ (i := 7) (N := some 128) (v := undef) (a' := ?_) #[Y,Y,Y,Y,Y,Y,Y,Y,Z,Z,Z,Z,Z,Z,Z,Z,Z,Z,Z,Z,Z,Z,Z,Z,Z,Z,Z,Z,Z,Z,Z,Z,Z,Z,Z,Z,Z,Z,Z,Z,Z,Z] rfl rfl (any_of HT_.out (by kernel_rfl)) (fun _ _ _ h => h) (Or.inr ⟨by rfl, rfl⟩) ?_ ?_
               rotate_left
               ·simp only [Act.put, sA_, s0_, s1_, i64_w, i32_w]
                rfl
               refine pure_ (i := 8) (N := some 129) (v := undef) (a' := ?_) #[Y,Y,Y,Y,Y,Y,Y,Y,Y,Z,Z,Z,Z,Z,Z,Z,Z,Z,Z,Z,Z,Z,Z,Z,Z,Z,Z,Z,Z,Z,Z,Z,Z,Z,Z,Z,Z,Z,Z,Z,Z,Z] rfl rfl (any_of HT_.out (by kernel_rfl)) (fun _ _ _ h => h) (Or.inr ⟨by rfl, rfl⟩) ?_ ?_
               rotate_left
               ·simp only [Act.put, sA_, s0_, s1_, i64_w, i32_w]
                rfl
               refine pure_ (i := 9) (N := some 130) (v := undef) (a' := ?_) #[Y,Y,Y,Y,Y,Y,Y,Y,Y,Y,Z,Z,Z,Z,Z,Z,Z,Z,Z,Z,Z,Z,Z,Z,Z,Z,Z,Z,Z,Z,Z,Z,Z,Z,Z,Z,Z,Z,Z,Z,Z,Z] rfl rfl (any_of HT_.out (by kernel_rfl)) (fun _ _ _ h => h) (Or.inr ⟨by rfl, rfl⟩) ?_ ?_
               rotate_left
               ·simp only [Act.put, sA_, s0_, s1_, i64_w, i32_w]
                rfl
               refine pure_ (i := 10) (N := some 131) (v := undef) (a' := ?_) #[Y,Y,Y,Y,Y,Y,Y,Y,Y,Y,Y,Z,Z,Z,Z,Z,Z,Z,Z,Z,Z,Z,Z,Z,Z,Z,Z,Z,Z,Z,Z,Z,Z,Z,Z,Z,Z,Z,Z,Z,Z,Z] rfl rfl (any_of HT_.out (by kernel_rfl)) (fun _ _ _ h => h) (Or.inr ⟨by rfl, rfl⟩) ?_ ?_
               rotate_left
               ·simp only [Act.put, sA_, s0_, s1_, i64_w, i32_w]
                rfl
               refine pure_ (i := 11) (N := some 132) (v := undef) (a' := ?_) #[Y,Y,Y,Y,Y,Y,Y,Y,Y,Y,Y,Y,Z,Z,Z,Z,Z,Z,Z,Z,Z,Z,Z,Z,Z,Z,Z,Z,Z,Z,Z,Z,Z,Z,Z,Z,Z,Z,Z,Z,Z,Z] rfl rfl (any_of HT_.out (by kernel_rfl)) (fun _ _ _ h => h) (Or.inr ⟨by rfl, rfl⟩) ?_ ?_
               rotate_left
               ·simp only [Act.put, sA_, s0_, s1_, i64_w, i32_w]
                rfl
               refine pure_ (i := 12) (N := some 133) (v := undef) (a' := ?_) #[Y,Y,Y,Y,Y,Y,Y,Y,Y,Y,Y,Y,Y,Z,Z,Z,Z,Z,Z,Z,Z,Z,Z,Z,Z,Z,Z,Z,Z,Z,Z,Z,Z,Z,Z,Z,Z,Z,Z,Z,Z,Z] rfl rfl (any_of HT_.out (by kernel_rfl)) (fun _ _ _ h => h) (Or.inr ⟨by rfl, rfl⟩) ?_ ?_
               rotate_left
               ·simp only [Act.put, sA_, s0_, s1_, i64_w, i32_w]
                rfl
               refine pure_ (i := 13) (N := some 134) (v := undef) (a' := ?_) q5_59 rfl rfl (any_of HT_.out (by kernel_rfl)) (fun _ _ _ h => h) (Or.inr ⟨by rfl, rfl⟩) ?_ ?_
               rotate_left
               ·simp only [Act.put, sA_, s0_, s1_, i64_w, i32_w]
                rfl
               refine pure_ (i := 14) (N := some 135) (v := undef) (a' := ?_) q5_60 rfl rfl (any_of HT_.out (by kernel_rfl)) (fun _ _ _ h => h) (Or.inr ⟨by rfl, rfl⟩) ?_ ?_
               rotate_left
               ·simp only [Act.put, sA_, s0_, s1_, i64_w, i32_w]
                rfl
               refine pure_ (i := 15) (N := some 136) (v := undef) (a' := ?_) q5_61 rfl rfl (any_of HT_.out (by kernel_rfl)) (fun _ _ _ h => h) (Or.inr ⟨by rfl, rfl⟩) ?_ ?_
               rotate_left
               ·simp only [Act.put, sA_, s0_, s1_, i64_w, i32_w]
                rfl
               refine pure_ (i := 16) (N := some 137) (v := undef) (a' := ?_) q5_62 rfl rfl (any_of HT_.out (by kernel_rfl)) (fun _ _ _ h => h) (Or.inr ⟨by rfl, rfl⟩) ?_ ?_
               rotate_left
               ·simp only [Act.put, sA_, s0_, s1_, i64_w, i32_w]
                rfl
               refine pure_ (i := 17) (N := some 138) (v := undef) (a' := ?_) q5_63 rfl rfl (any_of HT_.out (by kernel_rfl)) (fun _ _ _ h => h) (Or.inr ⟨by rfl, rfl⟩) ?_ ?_
               rotate_left
               ·simp only [Act.put, sA_, s0_, s1_, i64_w, i32_w]
                rfl
               refine pure_ (i := 18) (N := some 139) (v := undef) (a' := ?_) q5_64 rfl rfl (any_of HT_.out (by kernel_rfl)) (fun _ _ _ h => h) (Or.inr ⟨by rfl, rfl⟩) ?_ ?_
               rotate_left
               ·simp only [Act.put, sA_, s0_, s1_, i64_w, i32_w]
                rfl
               refine pure_ (i := 19) (N := some 140) (v := undef) (a' := ?_) q5_65 rfl rfl (any_of HT_.out (by kernel_rfl)) (fun _ _ _ h => h) (Or.inr ⟨by rfl, rfl⟩) ?_ ?_
               rotate_left
               ·simp only [Act.put, sA_, s0_, s1_, i64_w, i32_w]
                rfl
               refine pure_ (i := 20) (N := some 141) (v := undef) (a' := ?_) q5_66 rfl rfl (any_of HT_.out (by kernel_rfl)) (fun _ _ _ h => h) (Or.inr ⟨by rfl, rfl⟩) ?_ ?_
               rotate_left
               ·simp only [Act.put, sA_, s0_, s1_, i64_w, i32_w]
                rfl
               refine pure_ (i := 21) (N := some 142) (v := undef) (a' := ?_) q5_67 rfl rfl (any_of HT_.out (by kernel_rfl)) (fun _ _ _ h => h) (Or.inr ⟨by rfl, rfl⟩) ?_ ?_
               rotate_left
               ·simp only [Act.put, sA_, s0_, s1_, i64_w, i32_w]
                rfl
               refine pure_ (i := 22) (N := some 143) (v := undef) (a' := ?_) q5_68 rfl rfl (any_of HT_.out (by kernel_rfl)) (fun _ _ _ h => h) (Or.inr ⟨by rfl, rfl⟩) ?_ ?_
               rotate_left
               ·simp only [Act.put, sA_, s0_, s1_, i64_w, i32_w]
                rfl
               refine pure_ (i := 23) (N := some 144) (v := undef) (a' := ?_) q5_69 rfl rfl (any_of HT_.out (by kernel_rfl)) (fun _ _ _ h => h) (Or.inr ⟨by rfl, rfl⟩) ?_ ?_
               rotate_left
               ·simp only [Act.put, sA_, s0_, s1_, i64_w, i32_w]
                rfl
               refine pure_ (i := 24) (N := some 145) (v := undef) (a' := ?_) q5_70 rfl rfl (any_of HT_.out (by kernel_rfl)) (fun _ _ _ h => h) (Or.inr ⟨by rfl, rfl⟩) ?_ ?_
               rotate_left
               ·simp only [Act.put, sA_, s0_, s1_, i64_w, i32_w]
                rfl
               refine pure_ (i := 25) (N := some 146) (v := undef) (a' := ?_) q5_71 rfl rfl (any_of HT_.out (by kernel_rfl)) (fun _ _ _ h => h) (Or.inr ⟨by rfl, rfl⟩) ?_ ?_
               rotate_left
               ·simp only [Act.put, sA_, s0_, s1_, i64_w, i32_w]
                rfl
               refine pure_ (i := 26) (N := some 147) (v := undef) (a' := ?_) q5_72 rfl rfl (any_of HT_.out (by kernel_rfl)) (fun _ _ _ h => h) (Or.inr ⟨by rfl, rfl⟩) ?_ ?_
               rotate_left
               ·simp only [Act.put, sA_, s0_, s1_, i64_w, i32_w]
                rfl
               refine pure_ (i := 27) (N := some 148) (v := undef) (a' := ?_) q5_73 rfl rfl (any_of HT_.out (by kernel_rfl)) (fun _ _ _ h => h) (Or.inr ⟨by rfl, rfl⟩) ?_ ?_
               rotate_left
               ·simp only [Act.put, sA_, s0_, s1_, i64_w, i32_w]
                rfl
               refine pure_ (i := 28) (N := some 149) (v := undef) (a' := ?_) q5_74 rfl rfl (any_of HT_.out (by kernel_rfl)) (fun _ _ _ h => h) (Or.inr ⟨by rfl, rfl⟩) ?_ ?_
               rotate_left
               ·simp only [Act.put, sA_, s0_, s1_, i64_w, i32_w]
                rfl
               refine pure_ (i := 29) (N := some 150) (v := undef) (a' := ?_) q5_75 rfl rfl (any_of HT_.out (by kernel_rfl)) (fun _ _ _ h => h) (Or.inr ⟨by rfl, rfl⟩) ?_ ?_
               rotate_left
               ·simp only [Act.put, sA_, s0_, s1_, i64_w, i32_w]
                rfl
               refine pure_ (i := 30) (N := some 151) (v := undef) (a' := ?_) q5_76 rfl rfl (any_of HT_.out (by kernel_rfl)) (fun _ _ _ h => h) (Or.inr ⟨by rfl, rfl⟩) ?_ ?_
               rotate_left
               ·simp only [Act.put, sA_, s0_, s1_, i64_w, i32_w]
                rfl
               refine pure_ (i := 31) (N := some 152) (v := undef) (a' := ?_) q5_77 rfl rfl (any_of HT_.out (by kernel_rfl)) (fun _ _ _ h => h) (Or.inr ⟨by rfl, rfl⟩) ?_ ?_
               rotate_left
               ·simp only [Act.put, sA_, s0_, s1_, i64_w, i32_w]
                rfl
               refine pure_ (i := 32) (N := some 153) (v := undef) (a' := ?_) q5_78 rfl rfl (any_of HT_.out (by kernel_rfl)) (fun _ _ _ h => h) (Or.inr ⟨by rfl, rfl⟩) ?_ ?_
               rotate_left
               ·simp only [Act.put, sA_, s0_, s1_, i64_w, i32_w]
                rfl
               refine pure_ (i := 33) (N := some 154) (v := undef) (a' := ?_) q5_79 rfl rfl (any_of HT_.out (by kernel_rfl)) (fun _ _ _ h => h) (Or.inr ⟨by rfl, rfl⟩) ?_ ?_
               rotate_left
               ·simp only [Act.put, sA_, s0_, s1_, i64_w, i32_w]
                rfl
               refine pure_ (i := 34) (N := some 155) (v := undef) (a' := ?_) q5_80 rfl rfl (any_of HT_.out (by kernel_rfl)) (fun _ _ _ h => h) (Or.inr ⟨by rfl, rfl⟩) ?_ ?_
               rotate_left
               ·simp only [Act.put, sA_, s0_, s1_, i64_w, i32_w]
                rfl
               refine pure_ (i := 35) (N := some 156) (v := undef) (a' := ?_) q5_81 rfl rfl (any_of HT_.out (by kernel_rfl)) (fun _ _ _ h => h) (Or.inr ⟨by rfl, rfl⟩) ?_ ?_
               rotate_left
               ·simp only [Act.put, sA_, s0_, s1_, i64_w, i32_w]
                rfl
               refine pure_ (i := 36) (N := some 157) (v := undef) (a' := ?_) q5_82 rfl rfl (any_of HT_.out (by kernel_rfl)) (fun _ _ _ h => h) (Or.inr ⟨by rfl, rfl⟩) ?_ ?_
               rotate_left
               ·simp only [Act.put, sA_, s0_, s1_, i64_w, i32_w]
                rfl
               refine pure_ (i := 37) (N := some 158) (v := undef) (a' := ?_) q5_83 rfl rfl (any_of HT_.out (by kernel_rfl)) (fun _ _ _ h => h) (Or.inr ⟨by rfl, rfl⟩) ?_ ?_
               rotate_left
               ·simp only [Act.put, sA_, s0_, s1_, i64_w, i32_w]
                rfl
               refine pure_ (i := 38) (N := some 159) (v := undef) (a' := ?_) q5_84 rfl rfl (any_of HT_.out (by kernel_rfl)) (fun _ _ _ h => h) (Or.inr ⟨by rfl, rfl⟩) ?_ ?_
               rotate_left
               ·simp only [Act.put, sA_, s0_, s1_, i64_w, i32_w]
                rfl
               refine pure_ (i := 39) (N := some 160) (v := undef) (a' := ?_) q5_85 rfl rfl (any_of HT_.out (by kernel_rfl)) (fun _ _ _ h => h) (Or.inr ⟨by rfl, rfl⟩) ?_ ?_
               rotate_left
               ·simp only [Act.put, sA_, s0_, s1_, i64_w, i32_w]
                rfl
               refine pure_ (i := 40) (N := some 161) (v := ?_) (a' := ?_) q5_86 rfl rfl (any_of HT_.out (by kernel_rfl)) (fun _ _ _ h => h) (Or.inl ⟨by rfl, ?_⟩) ?_ ?_; rotate_left; ·(intro w'; go_simp; with_reducible rfl)
               rotate_left; ·(simp only [Act.put, sA_, s0_, s1_, i64_w, i32_w]; rfl)
               refine pure_ (i := 41) (N := some 12) (v := ?_) (a' := ?_) q5_87 rfl rfl (any_of HT_.out (by kernel_rfl)) (fun _ _ _ h => h) (Or.inl ⟨by rfl, ?_⟩) ?_ ?_; rotate_left; ·(intro w'; go_simp; with_reducible rfl)
               rotate_left; ·(simp only [Act.put, sA_, s0_, s1_, i64_w, i32_w]; rfl)
               refine done_ (done_of HT_.out (by kernel_rfl)) ?_
               try go_wp2
               go_roundg k4
               case measure => have := HK1.out; have := HJ19.out; have := HJ42.out; have := HK4.out; omega
               case rel => exact ⟨(true), (wrap64 (x14_4 + 1)), (by first | rfl | (simp; done) | (simp [*]; done)), (by first | rfl | (simp; done) | (simp [*]; done)), H', ⟨by have := HK1.out; have := HJ19.out; have := HJ42.out; have := HK4.out; omega⟩, ⟨by (with_reducible repeat (first | apply Kd.R_alloc | apply Kd.R_drewN | apply Kd.R_drew)); exact HO_7.out⟩, ⟨by repeat (first | (with_reducible first | exact HB.out | apply wA | apply wN | apply wD) | exact HB.out)⟩⟩
              ·replace c48 := Bool.eq_false_iff.mpr c48
               subst c48
               have H1 : (if 0 ≤ x13_1 then (if x13_1 < (t391.length : Int) then (if 0 ≤ (rd t391 x13_1) then (if (rd t391 x13_1) < (l0.length : Int) then (if 0 ≤ x14_4 then (if x14_4 < (t391.length : Int) then (if 0 ≤ (rd t391 x14_4) then (if (rd t391 x14_4) < (l0.length : Int) then ((mummerlaw11_sub.f k4 ((rd_T24 l0 (rd t391 x13_1)).f1) ((rd_T24 l0 (rd t391 x14_4)).f1)).bind fun t417 => (if t417 = true then (mummerlaw11_BindsGreatest.l1 k4 l0 a1 a2 t391 t395 t396 x11_42 false x13_1 (wrap64 (x14_4 + 1))) else ((mummerlaw11_sub.f k4 ((rd_T24 l0 (rd t391 x14_4)).f1) ((rd_T24 l0 (rd t391 x13_1)).f1)).bind fun t422 => (mummerlaw11_BindsGreatest.l1 k4 l0 a1 a2 t391 t395 t396 x11_42 (!t422) x13_1 (wrap64 (x14_4 + 1)))))) else (none)) else (none)) else (none)) else (none)) else (none)) else (none)) else (none)) else (none)) = some r := by rw [if_neg (show ¬ (false = true) by decide)] at H; exact H
               clear H
               have H := H1
               clear H1
               by_cases c50 : 0 ≤ x13_1
               ·rw [if_pos c50] at H
                have c50b0 : decide (0 ≤ x13_1) = true := decide_eq_true c50
                clear c50
                by_cases c51 : x13_1 < (t391.length : Int)
                ·rw [if_pos c51] at H
                 have c51b0 : decide (x13_1 < (t391.length : Int)) = true := decide_eq_true c51
                 clear c51
                 by_cases c52 : 0 ≤ (rd t391 x13_1)
                 ·rw [if_pos c52] at H
                  have c52b0 : decide (0 ≤ (rd t391 x13_1)) = true := decide_eq_true c52
                  clear c52
                  by_cases c53 : (rd t391 x13_1) < (l0.length : Int)
                  ·rw [if_pos c53] at H
                   have c53b0 : decide ((rd t391 x13_1) < (l0.length : Int)) = true := decide_eq_true c53
                   clear c53
                   by_cases c54 : 0 ≤ x14_4
                   ·rw [if_pos c54] at H
                    have c54b0 : decide (0 ≤ x14_4) = true := decide_eq_true c54
                    clear c54
                    by_cases c55 : x14_4 < (t391.length : Int)
                    ·rw [if_pos c55] at H
                     have c55b0 : decide (x14_4 < (t391.length : Int)) = true := decide_eq_true c55
                     clear c55
                     by_cases c56 : 0 ≤ (rd t391 x14_4)
                     ·rw [if_pos c56] at H
                      have c56b0 : decide (0 ≤ (rd t391 x14_4)) = true := decide_eq_true c56
                      clear c56
                      by_cases c57 : (rd t391 x14_4) < (l0.length : Int)
                      ·rw [if_pos c57] at H
                       have c57b0 : decide ((rd t391 x14_4) < (l0.length : Int)) = true := decide_eq_true c57
                       clear c57
                       replace H := Option.bind_eq_some_iff.mp H
                       obtain ⟨t417, A580, H⟩ := H
                       replace H : (if t417 = true then (mummerlaw11_BindsGreatest.l1 k4 l0 a1 a2 t391 t395 t396 x11_42 false x13_1 (wrap64 (x14_4 + 1))) else ((mummerlaw11_sub.f k4 ((rd_T24 l0 (rd t391 x14_4)).f1) ((rd_T24 l0 (rd t391 x13_1)).f1)).bind fun t422 => (mummerlaw11_BindsGreatest.l1 k4 l0 a1 a2 t391 t395 t396 x11_42 (!t422) x13_1 (wrap64 (x14_4 + 1))))) = some r := H
                       have A58 := ak A580
                       clear A580
                       by_cases c59 : t417 = true
                       ·subst c59
                        have H1 : (mummerlaw11_BindsGreatest.l1 k4 l0 a1 a2 t391 t395 t396 x11_42 false x13_1 (wrap64 (x14_4 + 1))) = some r := by rw [if_pos rfl] at H; exact H
                        clear H
                        have H := H1
                        clear H1
                        have H' := ak H
                        clear H
                        try go_wp2
                        have n0_ := ak (Kd.R_drew HO_7.out)
                        have n1_ := ak (wD HB.out)
                        clear HO_7 HB
                        have HO_7 := n0_
                        have HB := n1_
                        clear n0_ n1_
                        have p413 : 0 ≤ (x13_1 : Int) := of_decide_eq_true (by first | (with_reducible assumption) | assumption)
                        have q413 : x13_1 < (t391.length : Int) := of_decide_eq_true (by first | (with_reducible assumption) | assumption)
                        obtain ⟨ad413, e413, hx413_0⟩ := Kd.at_int (Kd.R_reads' HO_7.out).2.2 x13_1 p413 q413
                        cases e413
                        replace p413 := eq_true p413
                        replace q413 := eq_true q413
                        have p414 : 0 ≤ ((rd t391 x13_1) : Int) := of_decide_eq_true (by first | (with_reducible assumption) | assumption)
                        have q414 : (rd t391 x13_1) < (l0.length : Int) := of_decide_eq_true (by first | (with_reducible assumption) | assumption)
                        obtain ⟨ad414, e414, hx414_0, hx414_1, hx414_2, hx414_3⟩ := at_T24 HR0.out (rd t391 x13_1) p414 q414
                        have hw414_3 := hx414_3
                        have hw414_2 := hx414_2
                        have hw414_1 := hx414_1
                        have hw414_0 := hx414_0
                        cases e414
                        replace hx414_0 := (HB.out.cell (World.block_lt_of_cell? w _ hx414_0)).trans hx414_0
                        replace hx414_1 := (HB.out.cell (World.block_lt_of_cell? w _ hx414_1)).trans hx414_1
                        replace hx414_2 := (HB.out.cell (World.block_lt_of_cell? w _ hx414_2)).trans hx414_2
                        replace hx414_3 := (HB.out.cell (World.block_lt_of_cell? w _ hx414_3)).trans hx414_3
                        replace p414 := eq_true p414
                        replace q414 := eq_true q414
                        have p415 : 0 ≤ (x14_4 : Int) := of_decide_eq_true (by first | (with_reducible assumption) | assumption)
                        have q415 : x14_4 < (t391.length : Int) := of_decide_eq_true (by first | (with_reducible assumption) | assumption)
                        obtain ⟨ad415, e415, hx415_0⟩ := Kd.at_int (Kd.R_reads' HO_7.out).2.2 x14_4 p415 q415
                        obtain rfl : ad413 = ad415 := (by injection e415)
                        replace p415 := eq_true p415
                        replace q415 := eq_true q415
                        have p416 : 0 ≤ ((rd t391 x14_4) : Int) := of_decide_eq_true (by first | (with_reducible assumption) | assumption)
                        have q416 : (rd t391 x14_4) < (l0.length : Int) := of_decide_eq_true (by first | (with_reducible assumption) | assumption)
                        obtain ⟨ad416, e416, hx416_0, hx416_1, hx416_2, hx416_3⟩ := at_T24 HR0.out (rd t391 x14_4) p416 q416
                        have hw416_3 := hx416_3
                        have hw416_2 := hx416_2
                        have hw416_1 := hx416_1
                        have hw416_0 := hx416_0
                        obtain rfl : ad414 = ad416 := (by injection e416)
                        replace hx416_0 := (HB.out.cell (World.block_lt_of_cell? w _ hx416_0)).trans hx416_0
                        replace hx416_1 := (HB.out.cell (World.block_lt_of_cell? w _ hx416_1)).trans hx416_1
                        replace hx416_2 := (HB.out.cell (World.block_lt_of_cell? w _ hx416_2)).trans hx416_2
                        replace hx416_3 := (HB.out.cell (World.block_lt_of_cell? w _ hx416_3)).trans hx416_3
                        replace p416 := eq_true p416
                        replace q416 := eq_true q416
                        refine start_ (n := 42) (S := fun w' => w'.cell? (ad413.add (x13_1).toNat) = some (.int .i64 (rd t391 x13_1)) ∧ w'.cell? (ad414.add (((rd t391 x13_1)).toNat * 4)) = some (.string ((rd_T24 l0 (rd t391 x13_1)).f0)) ∧ w'.cell? ⟨(ad414.add (((rd t391 x13_1)).toNat * 4)).block, (ad414.add (((rd t391 x13_1)).toNat * 4)).off + 1, none⟩ = some (.string ((rd_T24 l0 (rd t391 x13_1)).f1)) ∧ w'.cell? ⟨(ad414.add (((rd t391 x13_1)).toNat * 4)).block, (ad414.add (((rd t391 x13_1)).toNat * 4)).off + 2, none⟩ = some (.int .i64 ((rd_T24 l0 (rd t391 x13_1)).f2)) ∧ w'.cell? ⟨(ad414.add (((rd t391 x13_1)).toNat * 4)).block, (ad414.add (((rd t391 x13_1)).toNat * 4)).off + 3, none⟩ = some (.int .i64 ((rd_T24 l0 (rd t391 x13_1)).f3)) ∧ w'.cell? (ad413.add (x14_4).toNat) = some (.int .i64 (rd t391 x14_4)) ∧ w'.cell? (ad414.add (((rd t391 x14_4)).toNat * 4)) = some (.string ((rd_T24 l0 (rd t391 x14_4)).f0)) ∧ w'.cell? ⟨(ad414.add (((rd t391 x14_4)).toNat * 4)).block, (ad414.add (((rd t391 x14_4)).toNat * 4)).off + 1, none⟩ = some (.string ((rd_T24 l0 (rd t391 x14_4)).f1)) ∧ w'.cell? ⟨(ad414.add (((rd t391 x14_4)).toNat * 4)).block, (ad414.add (((rd t391 x14_4)).toNat * 4)).off + 2, none⟩ = some (.int .i64 ((rd_T24 l0 (rd t391 x14_4)).f2)) ∧ w'.cell? ⟨(ad414.add (((rd t391 x14_4)).toNat * 4)).block, (ad414.add (((rd t391 x14_4)).toNat * 4)).off + 3, none⟩ = some (.int .i64 ((rd_T24 l0 (rd t391 x14_4)).f3))) (ds := []) q5_52 (by kernel_rfl) rfl rfl ⟨hx413_0, ((HB.out.cell (World.block_lt_of_cell? w _ hw414_0)).trans hw414_0), ((HB.out.cell (World.block_lt_of_cell? w _ hw414_1)).trans hw414_1), ((HB.out.cell (World.block_lt_of_cell? w _ hw414_2)).trans hw414_2), ((HB.out.cell (World.block_lt_of_cell? w _ hw414_3)).trans hw414_3), hx415_0, ((HB.out.cell (World.block_lt_of_cell? w _ hw416_0)).trans hw416_0), ((HB.out.cell (World.block_lt_of_cell? w _ hw416_1)).trans hw416_1), ((HB.out.cell (World.block_lt_of_cell? w _ hw416_2)).trans hw416_2), ((HB.out.cell (World.block_lt_of_cell? w _ hw416_3)).trans hw416_3)⟩ (fun hHeld => ?_); refine with_tabW mummerlaw11_BindsGreatest.tab17 mummerlaw11_BindsGreatest.bits17 (fun HT_ HW_ => ?_)
                        generalize wr.drew = w60 at HO_7 HB hx413_0 hx414_0 hx414_1 hx414_2 hx414_3 hx415_0 hx416_0 hx416_1 hx416_2 hx416_3 hHeld ⊢
                        refine pure_ (i := 0) (N := some 121) (v := ?_) (a' := ?_) q5_53 rfl rfl (any_of HT_.out (by kernel_rfl)) (fun _ _ _ h => h) (Or.inl ⟨by rfl, ?_⟩) ?_ ?_; rotate_left; ·(intro w'; go_simp; with_reducible rfl)
                        rotate_left; ·(simp only [Act.put, sA_, s0_, s1_, i64_w, i32_w]; rfl)
                        refine pure_ (i := 1) (N := some 122) (v := ?_) (a' := ?_) q5_54 rfl rfl (any_of HT_.out (by kernel_rfl)) (fun _ _ _ h => h) (Or.inl ⟨by rfl, ?_⟩) ?_ ?_; rotate_left; ·(intro w'; go_simp; with_reducible rfl)
                        rotate_left; ·(simp only [Act.put, sA_, s0_, s1_, i64_w, i32_w]; rfl)
                        refine pure_ (i := 2) (N := some 123) (v := ?_) (a' := ?_) q5_55 rfl rfl (any_of HT_.out (by kernel_rfl)) (fun _ _ _ h => h) (Or.inl ⟨by rfl, ?_⟩) ?_ ?_; rotate_left; ·(intro w'; go_simp; with_reducible rfl)
                        rotate_left; ·(simp only [Act.put, sA_, s0_, s1_, i64_w, i32_w]; rfl)
                        refine pure_ (i := 3) (N := some 124) (v := ?_) (a' := ?_) q5_56 rfl rfl (any_of HT_.out (by kernel_rfl)) (fun _ _ _ h => h) (Or.inl ⟨by rfl, ?_⟩) ?_ ?_; rotate_left; ·(intro w'; go_simp; with_reducible rfl)
                        rotate_left; ·(simp only [Act.put, sA_, s0_, s1_, i64_w, i32_w]; rfl)
                        refine pure_ (i := 4) (N := some 125) (v := ?_) (a' := ?_) q5_57 rfl rfl (any_of HT_.out (by kernel_rfl)) (fun _ _ _ h => h) (Or.inl ⟨by rfl, ?_⟩) ?_ ?_; rotate_left; ·(intro w'; go_simp; with_reducible rfl)
                        rotate_left; ·(simp only [Act.put, sA_, s0_, s1_, i64_w, i32_w]; rfl)
                        refine pure_ (i := 5) (N := some 126) (v := ?_) (a' := ?_) q5_58 rfl rfl (any_of HT_.out (by kernel_rfl)) (fun _ _ _ h => h) (Or.inl ⟨by rfl, ?_⟩) ?_ ?_; rotate_left; ·(intro w'; go_simp; with_reducible rfl)
                        rotate_left; ·(simp only [Act.put, sA_, s0_, s1_, i64_w, i32_w]; rfl)
                        refine pure_ (i := 10) (N := some 131) (v := ?_) (a' := ?_) q5_88 rfl rfl (any_of HT_.out (by kernel_rfl)) (fun _ _ _ h => h) (Or.inl ⟨by rfl, ?_⟩) ?_ ?_; rotate_left; ·(intro w'; go_simp; with_reducible rfl)
                        rotate_left; ·(simp only [Act.put, sA_, s0_, s1_, i64_w, i32_w]; rfl)
                        refine pure_ (i := 11) (N := some 132) (v := ?_) (a' := ?_) q5_89 rfl rfl (any_of HT_.out (by kernel_rfl)) (fun _ _ _ h => h) (Or.inl ⟨by rfl, ?_⟩) ?_ ?_; rotate_left; ·(intro w'; go_simp; with_reducible rfl)
                        rotate_left; ·(simp only [Act.put, sA_, s0_, s1_, i64_w, i32_w]; rfl)
                        refine pure_ (i := 12) (N := some 133) (v := ?_) (a' := ?_) q5_90 rfl rfl (any_of HT_.out (by kernel_rfl)) (fun _ _ _ h => h) (Or.inl ⟨by rfl, ?_⟩) ?_ ?_; rotate_left; ·(intro w'; go_simp; with_reducible rfl)
                        rotate_left; ·(simp only [Act.put, sA_, s0_, s1_, i64_w, i32_w]; rfl)
                        refine pure_ (i := 13) (N := some 134) (v := ?_) (a' := ?_) q5_91 rfl rfl (any_of HT_.out (by kernel_rfl)) (fun _ _ _ h => h) (Or.inl ⟨by rfl, ?_⟩) ?_ ?_; rotate_left; ·(intro w'; go_simp; with_reducible rfl)
                        rotate_left; ·(simp only [Act.put, sA_, s0_, s1_, i64_w, i32_w]; rfl)
                        refine take_ (i := 6) (N := some 127) (v := ?_) (a' := ?_) q5_92 rfl rfl (take_ofW HT_.out HW_.out (by kernel_rfl)) (fun _ _ _ h => h) (Or.inl ⟨by rfl, ?_⟩) hHeld ?_ ?_; rotate_left; ·(rintro w' ⟨s0, s1, s2, s3, s4, s5, s6, s7, s8, s9⟩; go_simp; with_reducible rfl)
                        rotate_left; ·(simp only [Act.put, sA_, s0_, s1_, i64_w, i32_w]; rfl)
                        refine pure_ (i := 7) (N := some 128) (v := ?_) (a' := ?_) q5_93 rfl rfl (any_of HT_.out (by kernel_rfl)) (fun _ _ _ h => h) (Or.inl ⟨by rfl, ?_⟩) ?_ ?_; rotate_left; ·(intro w'; go_simp; with_reducible rfl)
                        rotate_left; ·(simp only [Act.put, sA_, s0_, s1_, i64_w, i32_w]; rfl)
                        refine pure_ (i := 8) (N := some 129) (v := ?_) (a' := ?_) q5_94 rfl rfl (any_of HT_.out (by kernel_rfl)) (fun _ _ _ h => h) (Or.inl ⟨by rfl, ?_⟩) ?_ ?_; rotate_left; ·(intro w'; go_simp; with_reducible rfl)
                        rotate_left; ·(simp only [Act.put, sA_, s0_, s1_, i64_w, i32_w]; rfl)
                        refine take_ (i := 9) (N := some 130) (v := ?_) (a' := ?_) q5_59 rfl rfl (take_ofW HT_.out HW_.out (by kernel_rfl)) (fun _ _ _ h => h) (Or.inl ⟨by rfl, ?_⟩) hHeld ?_ ?_; rotate_left; ·(rintro w' ⟨s0, s1, s2, s3, s4, s5, s6, s7, s8, s9⟩; go_simp; with_reducible rfl)
                        rotate_left; ·(simp only [Act.put, sA_, s0_, s1_, i64_w, i32_w]; rfl)
                        refine take_ (i := 14) (N := some 135) (v := ?_) (a' := ?_) q5_60 rfl rfl (take_ofW HT_.out HW_.out (by kernel_rfl)) (fun _ _ _ h => h) (Or.inl ⟨by rfl, ?_⟩) hHeld ?_ ?_; rotate_left; ·(rintro w' ⟨s0, s1, s2, s3, s4, s5, s6, s7, s8, s9⟩; go_simp; with_reducible rfl)
                        rotate_left; ·(simp only [Act.put, sA_, s0_, s1_, i64_w, i32_w]; rfl)
                        refine pure_ (i := 15) (N := some 136) (v := ?_) (a' := ?_) q5_61 rfl rfl (any_of HT_.out (by kernel_rfl)) (fun _ _ _ h => h) (Or.inl ⟨by rfl, ?_⟩) ?_ ?_; rotate_left; ·(intro w'; go_simp; with_reducible rfl)
                        rotate_left; ·(simp only [Act.put, sA_, s0_, s1_, i64_w, i32_w]; rfl)
                        refine pure_ (i := 16) (N := some 137) (v := ?_) (a' := ?_) q5_62 rfl rfl (any_of HT_.out (by kernel_rfl)) (fun _ _ _ h => h) (Or.inl ⟨by rfl, ?_⟩) ?_ ?_; rotate_left; ·(intro w'; go_simp; with_reducible rfl)
                        rotate_left; ·(simp only [Act.put, sA_, s0_, s1_, i64_w, i32_w]; rfl)
                        refine take_ (i := 17) (N := some 138) (v := ?_) (a' := ?_) q5_63 rfl rfl (take_ofW HT_.out HW_.out (by kernel_rfl)) (fun _ _ _ h => h) (Or.inl ⟨by rfl, ?_⟩) hHeld ?_ ?_; rotate_left; ·(rintro w' ⟨s0, s1, s2, s3, s4, s5, s6, s7, s8, s9⟩; go_simp; with_reducible rfl)
                        rotate_left; ·(simp only [Act.put, sA_, s0_, s1_, i64_w, i32_w]; rfl)
                        refine one_ (i := 18) (N := some 139) q5_64 rfl rfl (one_of HT_.out (by kernel_rfl)) (by decide) (fun K hK => ?_)
                        refine goes_ Try.func22 (by kernel_rfl) rfl #[.string ((rd_T24 l0 (rd t391 x13_1)).f1), .string ((rd_T24 l0 (rd t391 x14_4)).f1)] (by rfl) rfl rfl (by (try simp only [List.map_toArray, List.map_cons, List.map_nil]); first | done | rfl | (simp only [List.length_drop, List.length_take]; rfl)) ?_
                        with_reducible refine (mummerlaw11_sub.calls k4 ((rd_T24 l0 (rd t391 x13_1)).f1) ((rd_T24 l0 (rd t391 x14_4)).f1) true _ A58.out).mono ?_
                        rintro e w61 ⟨rfl, hb⟩
                        have HS0_ := (hb.cell (World.block_lt_of_cell? _ _ (hHeld.1))).trans (hHeld.1)
                        have HS5_ := (hb.cell (World.block_lt_of_cell? _ _ (hHeld.2.2.2.2.2.1))).trans (hHeld.2.2.2.2.2.1)
                        refine ⟨_, rfl, ?_⟩
                        have n0_ := ak (Kd.R_below (by (with_reducible repeat (first | apply Kd.R_alloc | apply Kd.R_drewN | apply Kd.R_drew)); exact HO_7.out) hb)
                        have n1_ := ak (below_step (by repeat (first | (with_reducible first | exact HB.out | apply wA | apply wN | apply wD) | exact HB.out)) hb)
                        clear HO_7 HB
                        have HO_7 := n0_
                        have HB := n1_
                        clear n0_ n1_
                        (try clear hb)
                        (try clear hb2)
                        (try clear hk)
                        (try clear hi)
                        refine hK.out _ _ ⟨HS0_, ((HB.out.cell (World.block_lt_of_cell? w _ hw414_0)).trans hw414_0), ((HB.out.cell (World.block_lt_of_cell? w _ hw414_1)).trans hw414_1), ((HB.out.cell (World.block_lt_of_cell? w _ hw414_2)).trans hw414_2), ((HB.out.cell (World.block_lt_of_cell? w _ hw414_3)).trans hw414_3), HS5_, ((HB.out.cell (World.block_lt_of_cell? w _ hw416_0)).trans hw416_0), ((HB.out.cell (World.block_lt_of_cell? w _ hw416_1)).trans hw416_1), ((HB.out.cell (World.block_lt_of_cell? w _ hw416_2)).trans hw416_2), ((HB.out.cell (World.block_lt_of_cell? w _ hw416_3)).trans hw416_3)⟩ (fun hHeld => ?_)
                        clear hK K
                        refine norm_ (a' := ?_) ?_ ?_
                        rotate_left
                        ·show Act.put _ (some 139) _ = _
                         simp only [Act.put, sA_, s0_, s1_, i64_w, i32_w]
                         rfl
                        refine pure_ (i := 19) (N := some 140) (v := ?_) (a' := ?_) q5_65 rfl rfl (any_of HT_.out (by kernel_rfl)) (fun _ _ _ h => h) (Or.inl ⟨by rfl, ?_⟩) ?_ ?_; rotate_left; ·(intro w'; go_simp; with_reducible rfl)
                        rotate_left; ·(simp only [Act.put, sA_, s0_, s1_, i64_w, i32_w]; rfl)
                        refine pure_ (i := 20) (N := some 141) (v := ?_) (a' := ?_) q5_66 rfl rfl (any_of HT_.out (by kernel_rfl)) (fun _ _ _ h => h) (Or.inl ⟨by rfl, ?_⟩) ?_ ?_; rotate_left; ·(intro w'; go_simp; with_reducible rfl)
                        rotate_left; ·(simp only [Act.put, sA_, s0_, s1_, i64_w, i32_w]; rfl)
                        refine pure_ (i := 21) (N := some 142) (v := undef) (a' := ?_) q5_67 rfl rfl (any_of HT_.out (by kernel_rfl)) (fun _ _ _ h => h) (Or.inr ⟨by rfl, rfl⟩) ?_ ?_
                        rotate_left
                        ·simp only [Act.put, sA_, s0_, s1_, i64_w, i32_w]
                         rfl
                        refine pure_ (i := 22) (N := some 143) (v := undef) (a' := ?_) q5_68 rfl rfl (any_of HT_.out (by kernel_rfl)) (fun _ _ _ h => h) (Or.inr ⟨by rfl, rfl⟩) ?_ ?_
                        rotate_left
                        ·simp only [Act.put, sA_, s0_, s1_, i64_w, i32_w]
                         rfl
                        refine pure_ (i := 23) (N := some 144) (v := undef) (a' := ?_) q5_69 rfl rfl (any_of HT_.out (by kernel_rfl)) (fun _ _ _ h => h) (Or.inr ⟨by rfl, rfl⟩) ?_ ?_
                        rotate_left
                        ·simp only [Act.put, sA_, s0_, s1_, i64_w, i32_w]
                         rfl
                        refine pure_ (i := 24) (N := some 145) (v := undef) (a' := ?_) q5_70 rfl rfl (any_of HT_.out (by kernel_rfl)) (fun _ _ _ h => h) (Or.inr ⟨by rfl, rfl⟩) ?_ ?_
                        rotate_left
                        ·simp only [Act.put, sA_, s0_, s1_, i64_w, i32_w]
                         rfl
                        refine pure_ (i := 25) (N := some 146) (v := undef) (a' := ?_) q5_71 rfl rfl (any_of HT_.out (by kernel_rfl)) (fun _ _ _ h => h) (Or.inr ⟨by rfl, rfl⟩) ?_ ?_
                        rotate_left
                        ·simp only [Act.put, sA_, s0_, s1_, i64_w, i32_w]
                         rfl
                        refine pure_ (i := 26) (N := some 147) (v := undef) (a' := ?_) q5_72 rfl rfl (any_of HT_.out (by kernel_rfl)) (fun _ _ _ h => h) (Or.inr ⟨by rfl, rfl⟩) ?_ ?_
                        rotate_left
                        ·simp only [Act.put, sA_, s0_, s1_, i64_w, i32_w]
                         rfl
                        refine pure_ (i := 27) (N := some 148) (v := undef) (a' := ?_) q5_73 rfl rfl (any_of HT_.out (by kernel_rfl)) (fun _ _ _ h => h) (Or.inr ⟨by rfl, rfl⟩) ?_ ?_
                        rotate_left
                        ·simp only [Act.put, sA_, s0_, s1_, i64_w, i32_w]
                         rfl
                        refine pure_ (i := 28) (N := some 149) (v := undef) (a' := ?_) q5_74 rfl rfl (any_of HT_.out (by kernel_rfl)) (fun _ _ _ h => h) (Or.inr ⟨by rfl, rfl⟩) ?_ ?_
                        rotate_left
                        ·simp only [Act.put, sA_, s0_, s1_, i64_w, i32_w]
                         rfl
                        refine pure_ (i := 29) (N := some 150) (v := undef) (a' := ?_) q5_75 rfl rfl (any_of HT_.out (by kernel_rfl)) (fun _ _ _ h => h) (Or.inr ⟨by rfl, rfl⟩) ?_ ?_
                        rotate_left
                        ·simp only [Act.put, sA_, s0_, s1_, i64_w, i32_w]
                         rfl
                        refine pure_ (i := 30) (N := some 151) (v := undef) (a' := ?_) q5_76 rfl rfl (any_of HT_.out (by kernel_rfl)) (fun _ _ _ h => h) (Or.inr ⟨by rfl, rfl⟩) ?_ ?_
                        rotate_left
                        ·simp only [Act.put, sA_, s0_, s1_, i64_w, i32_w]
                         rfl
                        refine pure_ (i := 31) (N := some 152) (v := undef) (a' := ?_) q5_77 rfl rfl (any_of HT_.out (by kernel_rfl)) (fun _ _ _ h => h) (Or.inr ⟨by rfl, rfl⟩) ?_ ?_
                        rotate_left
                        ·simp only [Act.put, sA_, s0_, s1_, i64_w, i32_w]
                         rfl
                        refine pure_ (i := 32) (N := some 153) (v := undef) (a' := ?_) q5_78 rfl rfl (any_of HT_.out (by kernel_rfl)) (fun _ _ _ h => h) (Or.inr ⟨by rfl, rfl⟩) ?_ ?_
                        rotate_left
                        ·simp only [Act.put, sA_, s0_, s1_, i64_w, i32_w]
                         rfl
                        refine pure_ (i := 33) (N := some 154) (v := undef) (a' := ?_) q5_79 rfl rfl (any_of HT_.out (by kernel_rfl)) (fun _ _ _ h => h) (Or.inr ⟨by rfl, rfl⟩) ?_ ?_
                        rotate_left
                        ·simp only [Act.put, sA_, s0_, s1_, i64_w, i32_w]
                         rfl
                        refine pure_ (i := 34) (N := some 155) (v := undef) (a' := ?_) q5_80 rfl rfl (any_of HT_.out (by kernel_rfl)) (fun _ _ _ h => h) (Or.inr ⟨by rfl, rfl⟩) ?_ ?_
                        rotate_left
                        ·simp only [Act.put, sA_, s0_, s1_, i64_w, i32_w]
                         rfl
                        refine pure_ (i := 35) (N := some 156) (v := undef) (a' := ?_) q5_81 rfl rfl (any_of HT_.out (by kernel_rfl)) (fun _ _ _ h => h) (Or.inr ⟨by rfl, rfl⟩) ?_ ?_
                        rotate_left
                        ·simp only [Act.put, sA_, s0_, s1_, i64_w, i32_w]
                         rfl
                        refine pure_ (i := 36) (N := some 157) (v := undef) (a' := ?_) q5_82 rfl rfl (any_of HT_.out (by kernel_rfl)) (fun _ _ _ h => h) (Or.inr ⟨by rfl, rfl⟩) ?_ ?_
                        rotate_left
                        ·simp only [Act.put, sA_, s0_, s1_, i64_w, i32_w]
                         rfl
                        refine pure_ (i := 37) (N := some 158) (v := undef) (a' := ?_) q5_83 rfl rfl (any_of HT_.out (by kernel_rfl)) (fun _ _ _ h => h) (Or.inr ⟨by rfl, rfl⟩) ?_ ?_
                        rotate_left
                        ·simp only [Act.put, sA_, s0_, s1_, i64_w, i32_w]
                         rfl
                        refine pure_ (i := 38) (N := some 159) (v := undef) (a' := ?_) q5_84 rfl rfl (any_of HT_.out (by kernel_rfl)) (fun _ _ _ h => h) (Or.inr ⟨by rfl, rfl⟩) ?_ ?_
                        rotate_left
                        ·simp only [Act.put, sA_, s0_, s1_, i64_w, i32_w]
                         rfl
                        refine pure_ (i := 39) (N := some 160) (v := ?_) (a' := ?_) q5_85 rfl rfl (any_of HT_.out (by kernel_rfl)) (fun _ _ _ h => h) (Or.inl ⟨by rfl, ?_⟩) ?_ ?_; rotate_left; ·(intro w'; go_simp; with_reducible rfl)
                        rotate_left; ·(simp only [Act.put, sA_, s0_, s1_, i64_w, i32_w]; rfl)
                        refine pure_ (i := 40) (N := some 161) (v := ?_) (a' := ?_) q5_86 rfl rfl (any_of HT_.out (by kernel_rfl)) (fun _ _ _ h => h) (Or.inl ⟨by rfl, ?_⟩) ?_ ?_; rotate_left; ·(intro w'; go_simp; with_reducible rfl)
                        rotate_left; ·(simp only [Act.put, sA_, s0_, s1_, i64_w, i32_w]; rfl)
                        refine pure_ (i := 41) (N := some 12) (v := ?_) (a' := ?_) q5_87 rfl rfl (any_of HT_.out (by kernel_rfl)) (fun _ _ _ h => h) (Or.inl ⟨by rfl, ?_⟩) ?_ ?_; rotate_left; ·(intro w'; go_simp; with_reducible rfl)
                        rotate_left; ·(simp only [Act.put, sA_, s0_, s1_, i64_w, i32_w]; rfl)
                        refine done_ (done_of HT_.out (by kernel_rfl)) ?_
                        try go_wp2
                        go_roundg k4
                        case measure => have := HK1.out; have := HJ19.out; have := HJ42.out; have := HK4.out; omega
                        case rel => exact ⟨(false), (wrap64 (x14_4 + 1)), (by first | rfl | (simp; done) | (simp [*]; done)), (by first | rfl | (simp; done) | (simp [*]; done)), H', ⟨by have := HK1.out; have := HJ19.out; have := HJ42.out; have := HK4.out; omega⟩, ⟨by (with_reducible repeat (first | apply Kd.R_alloc | apply Kd.R_drewN | apply Kd.R_drew)); exact HO_7.out⟩, ⟨by repeat (first | (with_reducible first | exact HB.out | apply wA | apply wN | apply wD) | exact HB.out)⟩⟩
                       ·replace c59 := Bool.eq_false_iff.mpr c59
                        subst c59
                        have H1 : ((mummerlaw11_sub.f k4 ((rd_T24 l0 (rd t391 x14_4)).f1) ((rd_T24 l0 (rd t391 x13_1)).f1)).bind fun t422 => (mummerlaw11_BindsGreatest.l1 k4 l0 a1 a2 t391 t395 t396 x11_42 (!t422) x13_1 (wrap64 (x14_4 + 1)))) = some r := by rw [if_neg (show ¬ (false = true) by decide)] at H; exact H
                        clear H
                        have H := H1
                        clear H1
                        replace H := Option.bind_eq_some_iff.mp H
                        obtain ⟨t422, A620, H⟩ := H
                        replace H : (mummerlaw11_BindsGreatest.l1 k4 l0 a1 a2 t391 t395 t396 x11_42 (!t422) x13_1 (wrap64 (x14_4 + 1))) = some r := H
                        have A62 := ak A620
                        clear A620
                        have H' := ak H
                        clear H
                        try go_wp2
                        have n0_ := ak (Kd.R_drew HO_7.out)
                        have n1_ := ak (wD HB.out)
                        clear HO_7 HB
                        have HO_7 := n0_
                        have HB := n1_
                        clear n0_ n1_
                        have p413 : 0 ≤ (x13_1 : Int) := of_decide_eq_true (by first | (with_reducible assumption) | assumption)
                        have q413 : x13_1 < (t391.length : Int) := of_decide_eq_true (by first | (with_reducible assumption) | assumption)
                        obtain ⟨ad413, e413, hx413_0⟩ := Kd.at_int (Kd.R_reads' HO_7.out).2.2 x13_1 p413 q413
                        cases e413
                        replace p413 := eq_true p413
                        replace q413 := eq_true q413
                        have p414 : 0 ≤ ((rd t391 x13_1) : Int) := of_decide_eq_true (by first | (with_reducible assumption) | assumption)
                        have q414 : (rd t391 x13_1) < (l0.length : Int) := of_decide_eq_true (by first | (with_reducible assumption) | assumption)
                        obtain ⟨ad414, e414, hx414_0, hx414_1, hx414_2, hx414_3⟩ := at_T24 HR0.out (rd t391 x13_1) p414 q414
                        have hw414_3 := hx414_3
                        have hw414_2 := hx414_2
                        have hw414_1 := hx414_1
                        have hw414_0 := hx414_0
                        cases e414
                        replace hx414_0 := (HB.out.cell (World.block_lt_of_cell? w _ hx414_0)).trans hx414_0
                        replace hx414_1 := (HB.out.cell (World.block_lt_of_cell? w _ hx414_1)).trans hx414_1
                        replace hx414_2 := (HB.out.cell (World.block_lt_of_cell? w _ hx414_2)).trans hx414_2
                        replace hx414_3 := (HB.out.cell (World.block_lt_of_cell? w _ hx414_3)).trans hx414_3
                        replace p414 := eq_true p414
                        replace q414 := eq_true q414
                        have p415 : 0 ≤ (x14_4 : Int) := of_decide_eq_true (by first | (with_reducible assumption) | assumption)
                        have q415 : x14_4 < (t391.length : Int) := of_decide_eq_true (by first | (with_reducible assumption) | assumption)
                        obtain ⟨ad415, e415, hx415_0⟩ := Kd.at_int (Kd.R_reads' HO_7.out).2.2 x14_4 p415 q415
                        obtain rfl : ad413 = ad415 := (by injection e415)
                        replace p415 := eq_true p415
                        replace q415 := eq_true q415
                        have p416 : 0 ≤ ((rd t391 x14_4) : Int) := of_decide_eq_true (by first | (with_reducible assumption) | assumption)
                        have q416 : (rd t391 x14_4) < (l0.length : Int) := of_decide_eq_true (by first | (with_reducible assumption) | assumption)
                        obtain ⟨ad416, e416, hx416_0, hx416_1, hx416_2, hx416_3⟩ := at_T24 HR0.out (rd t391 x14_4) p416 q416
                        have hw416_3 := hx416_3
                        have hw416_2 := hx416_2
                        have hw416_1 := hx416_1
                        have hw416_0 := hx416_0
                        obtain rfl : ad414 = ad416 := (by injection e416)
                        replace hx416_0 := (HB.out.cell (World.block_lt_of_cell? w _ hx416_0)).trans hx416_0
                        replace hx416_1 := (HB.out.cell (World.block_lt_of_cell? w _ hx416_1)).trans hx416_1
                        replace hx416_2 := (HB.out.cell (World.block_lt_of_cell? w _ hx416_2)).trans hx416_2
                        replace hx416_3 := (HB.out.cell (World.block_lt_of_cell? w _ hx416_3)).trans hx416_3
                        replace p416 := eq_true p416
                        replace q416 := eq_true q416
                        have p418 : 0 ≤ (x14_4 : Int) := of_decide_eq_true (by first | (with_reducible assumption) | assumption)
                        have q418 : x14_4 < (t391.length : Int) := of_decide_eq_true (by first | (with_reducible assumption) | assumption)
                        obtain ⟨ad418, e418, hx418_0⟩ := Kd.at_int (Kd.R_reads' HO_7.out).2.2 x14_4 p418 q418
                        obtain rfl : ad413 = ad418 := (by injection e418)
                        replace p418 := eq_true p418
                        replace q418 := eq_true q418
                        have p419 : 0 ≤ ((rd t391 x14_4) : Int) := of_decide_eq_true (by first | (with_reducible assumption) | assumption)
                        have q419 : (rd t391 x14_4) < (l0.length : Int) := of_decide_eq_true (by first | (with_reducible assumption) | assumption)
                        obtain ⟨ad419, e419, hx419_0, hx419_1, hx419_2, hx419_3⟩ := at_T24 HR0.out (rd t391 x14_4) p419 q419
                        have hw419_3 := hx419_3
                        have hw419_2 := hx419_2
                        have hw419_1 := hx419_1
                        have hw419_0 := hx419_0
                        obtain rfl : ad414 = ad419 := (by injection e419)
                        replace hx419_0 := (HB.out.cell (World.block_lt_of_cell? w _ hx419_0)).trans hx419_0
                        replace hx419_1 := (HB.out.cell (World.block_lt_of_cell? w _ hx419_1)).trans hx419_1
                        replace hx419_2 := (HB.out.cell (World.block_lt_of_cell? w _ hx419_2)).trans hx419_2
                        replace hx419_3 := (HB.out.cell (World.block_lt_of_cell? w _ hx419_3)).trans hx419_3
                        replace p419 := eq_true p419
                        replace q419 := eq_true q419
                        have p420 : 0 ≤ (x13_1 : Int) := of_decide_eq_true (by first | (with_reducible assumption) | assumption)
                        have q420 : x13_1 < (t391.length : Int) := of_decide_eq_true (by first | (with_reducible assumption) | assumption)
                        obtain ⟨ad420, e420, hx420_0⟩ := Kd.at_int (Kd.R_reads' HO_7.out).2.2 x13_1 p420 q420
                        obtain rfl : ad413 = ad420 := (by injection e420)
                        replace p420 := eq_true p420
                        replace q420 := eq_true q420
                        have p421 : 0 ≤ ((rd t391 x13_1) : Int) := of_decide_eq_true (by first | (with_reducible assumption) | assumption)
                        have q421 : (rd t391 x13_1) < (l0.length : Int) := of_decide_eq_true (by first | (with_reducible assumption) | assumption)
                        obtain ⟨ad421, e421, hx421_0, hx421_1, hx421_2, hx421_3⟩ := at_T24 HR0.out (rd t391 x13_1) p421 q421
                        have hw421_3 := hx421_3
                        have hw421_2 := hx421_2
                        have hw421_1 := hx421_1
                        have hw421_0 := hx421_0
                        obtain rfl : ad414 = ad421 := (by injection e421)
                        replace hx421_0 := (HB.out.cell (World.block_lt_of_cell? w _ hx421_0)).trans hx421_0
                        replace hx421_1 := (HB.out.cell (World.block_lt_of_cell? w _ hx421_1)).trans hx421_1
                        replace hx421_2 := (HB.out.cell (World.block_lt_of_cell? w _ hx421_2)).trans hx421_2
                        replace hx421_3 := (HB.out.cell (World.block_lt_of_cell? w _ hx421_3)).trans hx421_3
                        replace p421 := eq_true p421
                        replace q421 := eq_true q421
                        refine start_ (n := 42) (S := fun w' => w'.cell? (ad413.add (x13_1).toNat) = some (.int .i64 (rd t391 x13_1)) ∧ w'.cell? (ad414.add (((rd t391 x13_1)).toNat * 4)) = some (.string ((rd_T24 l0 (rd t391 x13_1)).f0)) ∧ w'.cell? ⟨(ad414.add (((rd t391 x13_1)).toNat * 4)).block, (ad414.add (((rd t391 x13_1)).toNat * 4)).off + 1, none⟩ = some (.string ((rd_T24 l0 (rd t391 x13_1)).f1)) ∧ w'.cell? ⟨(ad414.add (((rd t391 x13_1)).toNat * 4)).block, (ad414.add (((rd t391 x13_1)).toNat * 4)).off + 2, none⟩ = some (.int .i64 ((rd_T24 l0 (rd t391 x13_1)).f2)) ∧ w'.cell? ⟨(ad414.add (((rd t391 x13_1)).toNat * 4)).block, (ad414.add (((rd t391 x13_1)).toNat * 4)).off + 3, none⟩ = some (.int .i64 ((rd_T24 l0 (rd t391 x13_1)).f3)) ∧ w'.cell? (ad413.add (x14_4).toNat) = some (.int .i64 (rd t391 x14_4)) ∧ w'.cell? (ad414.add (((rd t391 x14_4)).toNat * 4)) = some (.string ((rd_T24 l0 (rd t391 x14_4)).f0)) ∧ w'.cell? ⟨(ad414.add (((rd t391 x14_4)).toNat * 4)).block, (ad414.add (((rd t391 x14_4)).toNat * 4)).off + 1, none⟩ = some (.string ((rd_T24 l0 (rd t391 x14_4)).f1)) ∧ w'.cell? ⟨(ad414.add (((rd t391 x14_4)).toNat * 4)).block, (ad414.add (((rd t391 x14_4)).toNat * 4)).off + 2, none⟩ = some (.int .i64 ((rd_T24 l0 (rd t391 x14_4)).f2)) ∧ w'.cell? ⟨(ad414.add (((rd t391 x14_4)).toNat * 4)).block, (ad414.add (((rd t391 x14_4)).toNat * 4)).off + 3, none⟩ = some (.int .i64 ((rd_T24 l0 (rd t391 x14_4)).f3)) ∧ w'.cell? (ad413.add (x14_4).toNat) = some (.int .i64 (rd t391 x14_4)) ∧ w'.cell? (ad414.add (((rd t391 x14_4)).toNat * 4)) = some (.string ((rd_T24 l0 (rd t391 x14_4)).f0)) ∧ w'.cell? ⟨(ad414.add (((rd t391 x14_4)).toNat * 4)).block, (ad414.add (((rd t391 x14_4)).toNat * 4)).off + 1, none⟩ = some (.string ((rd_T24 l0 (rd t391 x14_4)).f1)) ∧ w'.cell? ⟨(ad414.add (((rd t391 x14_4)).toNat * 4)).block, (ad414.add (((rd t391 x14_4)).toNat * 4)).off + 2, none⟩ = some (.int .i64 ((rd_T24 l0 (rd t391 x14_4)).f2)) ∧ w'.cell? ⟨(ad414.add (((rd t391 x14_4)).toNat * 4)).block, (ad414.add (((rd t391 x14_4)).toNat * 4)).off + 3, none⟩ = some (.int .i64 ((rd_T24 l0 (rd t391 x14_4)).f3)) ∧ w'.cell? (ad413.add (x13_1).toNat) = some (.int .i64 (rd t391 x13_1)) ∧ w'.cell? (ad414.add (((rd t391 x13_1)).toNat * 4)) = some (.string ((rd_T24 l0 (rd t391 x13_1)).f0)) ∧ w'.cell? ⟨(ad414.add (((rd t391 x13_1)).toNat * 4)).block, (ad414.add (((rd t391 x13_1)).toNat * 4)).off + 1, none⟩ = some (.string ((rd_T24 l0 (rd t391 x13_1)).f1)) ∧ w'.cell? ⟨(ad414.add (((rd t391 x13_1)).toNat * 4)).block, (ad414.add (((rd t391 x13_1)).toNat * 4)).off + 2, none⟩ = some (.int .i64 ((rd_T24 l0 (rd t391 x13_1)).f2)) ∧ w'.cell? ⟨(ad414.add (((rd t391 x13_1)).toNat * 4)).block, (ad414.add (((rd t391 x13_1)).toNat * 4)).off + 3, none⟩ = some (.int .i64 ((rd_T24 l0 (rd t391 x13_1)).f3))) (ds := []) q5_52 (by kernel_rfl) rfl rfl ⟨hx413_0, ((HB.out.cell (World.block_lt_of_cell? w _ hw414_0)).trans hw414_0), ((HB.out.cell (World.block_lt_of_cell? w _ hw414_1)).trans hw414_1), ((HB.out.cell (World.block_lt_of_cell? w _ hw414_2)).trans hw414_2), ((HB.out.cell (World.block_lt_of_cell? w _ hw414_3)).trans hw414_3), hx415_0, ((HB.out.cell (World.block_lt_of_cell? w _ hw416_0)).trans hw416_0), ((HB.out.cell (World.block_lt_of_cell? w _ hw416_1)).trans hw416_1), ((HB.out.cell (World.block_lt_of_cell? w _ hw416_2)).trans hw416_2), ((HB.out.cell (World.block_lt_of_cell? w _ hw416_3)).trans hw416_3), hx418_0, ((HB.out.cell (World.block_lt_of_cell? w _ hw419_0)).trans hw419_0), ((HB.out.cell (World.block_lt_of_cell? w _ hw419_1)).trans hw419_1), ((HB.out.cell (World.block_lt_of_cell? w _ hw419_2)).trans hw419_2), ((HB.out.cell (World.block_lt_of_cell? w _ hw419_3)).trans hw419_3), hx420_0, ((HB.out.cell (World.block_lt_of_cell? w _ hw421_0)).trans hw421_0), ((HB.out.cell (World.block_lt_of_cell? w _ hw421_1)).trans hw421_1), ((HB.out.cell (World.block_lt_of_cell? w _ hw421_2)).trans hw421_2), ((HB.out.cell (World.block_lt_of_cell? w _ hw421_3)).trans hw421_3)⟩ (fun hHeld => ?_); refine with_tabW mummerlaw11_BindsGreatest.tab17 mummerlaw11_BindsGreatest.bits17 (fun HT_ HW_ => ?_)
                        generalize wr.drew = w63 at HO_7 HB hx413_0 hx414_0 hx414_1 hx414_2 hx414_3 hx415_0 hx416_0 hx416_1 hx416_2 hx416_3 hx418_0 hx419_0 hx419_1 hx419_2 hx419_3 hx420_0 hx421_0 hx421_1 hx421_2 hx421_3 hHeld ⊢
                        refine pure_ (i := 0) (N := some 121) (v := ?_) (a' := ?_) q5_53 rfl rfl (any_of HT_.out (by kernel_rfl)) (fun _ _ _ h => h) (Or.inl ⟨by rfl, ?_⟩) ?_ ?_; rotate_left; ·(intro w'; go_simp; with_reducible rfl)
                        rotate_left; ·(simp only [Act.put, sA_, s0_, s1_, i64_w, i32_w]; rfl)
                        refine pure_ (i := 1) (N := some 122) (v := ?_) (a' := ?_) q5_54 rfl rfl (any_of HT_.out (by kernel_rfl)) (fun _ _ _ h => h) (Or.inl ⟨by rfl, ?_⟩) ?_ ?_; rotate_left; ·(intro w'; go_simp; with_reducible rfl)
                        rotate_left; ·(simp only [Act.put, sA_, s0_, s1_, i64_w, i32_w]; rfl)
                        refine pure_ (i := 2) (N := some 123) (v := ?_) (a' := ?_) q5_55 rfl rfl (any_of HT_.out (by kernel_rfl)) (fun _ _ _ h => h) (Or.inl ⟨by rfl, ?_⟩) ?_ ?_; rotate_left; ·(intro w'; go_simp; with_reducible rfl)
                        rotate_left; ·(simp only [Act.put, sA_, s0_, s1_, i64_w, i32_w]; rfl)
                        refine pure_ (i := 3) (N := some 124) (v := ?_) (a' := ?_) q5_56 rfl rfl (any_of HT_.out (by kernel_rfl)) (fun _ _ _ h => h) (Or.inl ⟨by rfl, ?_⟩) ?_ ?_; rotate_left; ·(intro w'; go_simp; with_reducible rfl)
                        rotate_left; ·(simp only [Act.put, sA_, s0_, s1_, i64_w, i32_w]; rfl)
                        refine pure_ (i := 4) (N := some 125) (v := ?_) (a' := ?_) q5_57 rfl rfl (any_of HT_.out (by kernel_rfl)) (fun _ _ _ h => h) (Or.inl ⟨by rfl, ?_⟩) ?_ ?_; rotate_left; ·(intro w'; go_simp; with_reducible rfl)
                        rotate_left; ·(simp only [Act.put, sA_, s0_, s1_, i64_w, i32_w]; rfl)
                        refine pure_ (i := 5) (N := some 126) (v := ?_) (a' := ?_) q5_58 rfl rfl (any_of HT_.out (by kernel_rfl)) (fun _ _ _ h => h) (Or.inl ⟨by rfl, ?_⟩) ?_ ?_; rotate_left; ·(intro w'; go_simp; with_reducible rfl)
                        rotate_left; ·(simp only [Act.put, sA_, s0_, s1_, i64_w, i32_w]; rfl)
                        refine pure_ (i := 10) (N := some 131) (v := ?_) (a' := ?_) q5_88 rfl rfl (any_of HT_.out (by kernel_rfl)) (fun _ _ _ h => h) (Or.inl ⟨by rfl, ?_⟩) ?_ ?_; rotate_left; ·(intro w'; go_simp; with_reducible rfl)
                        rotate_left; ·(simp only [Act.put, sA_, s0_, s1_, i64_w, i32_w]; rfl)
                        refine pure_ (i := 11) (N := some 132) (v := ?_) (a' := ?_) q5_89 rfl rfl (any_of HT_.out (by kernel_rfl)) (fun _ _ _ h => h) (Or.inl ⟨by rfl, ?_⟩) ?_ ?_; rotate_left; ·(intro w'; go_simp; with_reducible rfl)
                        rotate_left; ·(simp only [Act.put, sA_, s0_, s1_, i64_w, i32_w]; rfl)
                        refine pure_ (i := 12) (N := some 133) (v := ?_) (a' := ?_) q5_90 rfl rfl (any_of HT_.out (by kernel_rfl)) (fun _ _ _ h => h) (Or.inl ⟨by rfl, ?_⟩) ?_ ?_; rotate_left; ·(intro w'; go_simp; with_reducible rfl)
                        rotate_left; ·(simp only [Act.put, sA_, s0_, s1_, i64_w, i32_w]; rfl)
                        refine pure_ (i := 13) (N := some 134) (v := ?_) (a' := ?_) q5_91 rfl rfl (any_of HT_.out (by kernel_rfl)) (fun _ _ _ h => h) (Or.inl ⟨by rfl, ?_⟩) ?_ ?_; rotate_left; ·(intro w'; go_simp; with_reducible rfl)
                        rotate_left; ·(simp only [Act.put, sA_, s0_, s1_, i64_w, i32_w]; rfl)
                        refine take_ (i := 6) (N := some 127) (v := ?_) (a' := ?_) q5_92 rfl rfl (take_ofW HT_.out HW_.out (by kernel_rfl)) (fun _ _ _ h => h) (Or.inl ⟨by rfl, ?_⟩) hHeld ?_ ?_; rotate_left; ·(rintro w' ⟨s0, s1, s2, s3, s4, s5, s6, s7, s8, s9, s10, s11, s12, s13, s14, s15, s16, s17, s18, s19⟩; go_simp; with_reducible rfl)
                        rotate_left; ·(simp only [Act.put, sA_, s0_, s1_, i64_w, i32_w]; rfl)
                        refine pure_ (i := 7) (N := some 128) (v := ?_) (a' := ?_) q5_93 rfl rfl (any_of HT_.out (by kernel_rfl)) (fun _ _ _ h => h) (Or.inl ⟨by rfl, ?_⟩) ?_ ?_; rotate_left; ·(intro w'; go_simp; with_reducible rfl)
                        rotate_left; ·(simp only [Act.put, sA_, s0_, s1_, i64_w, i32_w]; rfl)
                        refine pure_ (i := 8) (N := some 129) (v := ?_) (a' := ?_) q5_94 rfl rfl (any_of HT_.out (by kernel_rfl)) (fun _ _ _ h => h) (Or.inl ⟨by rfl, ?_⟩) ?_ ?_; rotate_left; ·(intro w'; go_simp; with_reducible rfl)
                        rotate_left; ·(simp only [Act.put, sA_, s0_, s1_, i64_w, i32_w]; rfl)
                        refine take_ (i := 9) (N := some 130) (v := ?_) (a' := ?_) q5_59 rfl rfl (take_ofW HT_.out HW_.out (by kernel_rfl)) (fun _ _ _ h => h) (Or.inl ⟨by rfl, ?_⟩) hHeld ?_ ?_; rotate_left; ·(rintro w' ⟨s0, s1, s2, s3, s4, s5, s6, s7, s8, s9, s10, s11, s12, s13, s14, s15, s16, s17, s18, s19⟩; go_simp; with_reducible rfl)
                        rotate_left; ·(simp only [Act.put, sA_, s0_, s1_, i64_w, i32_w]; rfl)
                        refine take_ (i := 14) (N := some 135) (v := ?_) (a' := ?_) q5_60 rfl rfl (take_ofW HT_.out HW_.out (by kernel_rfl)) (fun _ _ _ h => h) (Or.inl ⟨by rfl, ?_⟩) hHeld ?_ ?_; rotate_left; ·(rintro w' ⟨s0, s1, s2, s3, s4, s5, s6, s7, s8, s9, s10, s11, s12, s13, s14, s15, s16, s17, s18, s19⟩; go_simp; with_reducible rfl)
                        rotate_left; ·(simp only [Act.put, sA_, s0_, s1_, i64_w, i32_w]; rfl)
                        refine pure_ (i := 15) (N := some 136) (v := ?_) (a' := ?_) q5_61 rfl rfl (any_of HT_.out (by kernel_rfl)) (fun _ _ _ h => h) (Or.inl ⟨by rfl, ?_⟩) ?_ ?_; rotate_left; ·(intro w'; go_simp; with_reducible rfl)
                        rotate_left; ·(simp only [Act.put, sA_, s0_, s1_, i64_w, i32_w]; rfl)
                        refine pure_ (i := 16) (N := some 137) (v := ?_) (a' := ?_) q5_62 rfl rfl (any_of HT_.out (by kernel_rfl)) (fun _ _ _ h => h) (Or.inl ⟨by rfl, ?_⟩) ?_ ?_; rotate_left; ·(intro w'; go_simp; with_reducible rfl)
                        rotate_left; ·(simp only [Act.put, sA_, s0_, s1_, i64_w, i32_w]; rfl)
                        refine take_ (i := 17) (N := some 138) (v := ?_) (a' := ?_) q5_63 rfl rfl (take_ofW HT_.out HW_.out (by kernel_rfl)) (fun _ _ _ h => h) (Or.inl ⟨by rfl, ?_⟩) hHeld ?_ ?_; rotate_left; ·(rintro w' ⟨s0, s1, s2, s3, s4, s5, s6, s7, s8, s9, s10, s11, s12, s13, s14, s15, s16, s17, s18, s19⟩; go_simp; with_reducible rfl)
                        rotate_left; ·(simp only [Act.put, sA_, s0_, s1_, i64_w, i32_w]; rfl)
                        refine one_ (i := 18) (N := some 139) q5_64 rfl rfl (one_of HT_.out (by kernel_rfl)) (by decide) (fun K hK => ?_)
                        refine goes_ Try.func22 (by kernel_rfl) rfl #[.string ((rd_T24 l0 (rd t391 x13_1)).f1), .string ((rd_T24 l0 (rd t391 x14_4)).f1)] (by rfl) rfl rfl (by (try simp only [List.map_toArray, List.map_cons, List.map_nil]); first | done | rfl | (simp only [List.length_drop, List.length_take]; rfl)) ?_
                        with_reducible refine (mummerlaw11_sub.calls k4 ((rd_T24 l0 (rd t391 x13_1)).f1) ((rd_T24 l0 (rd t391 x14_4)).f1) false _ A58.out).mono ?_
                        rintro e w64 ⟨rfl, hb⟩
                        have HS0_ := (hb.cell (World.block_lt_of_cell? _ _ (hHeld.1))).trans (hHeld.1)
                        have HS5_ := (hb.cell (World.block_lt_of_cell? _ _ (hHeld.2.2.2.2.2.1))).trans (hHeld.2.2.2.2.2.1)
                        have HS10_ := (hb.cell (World.block_lt_of_cell? _ _ (hHeld.2.2.2.2.2.2.2.2.2.2.1))).trans (hHeld.2.2.2.2.2.2.2.2.2.2.1)
                        have HS15_ := (hb.cell (World.block_lt_of_cell? _ _ (hHeld.2.2.2.2.2.2.2.2.2.2.2.2.2.2.2.1))).trans (hHeld.2.2.2.2.2.2.2.2.2.2.2.2.2.2.2.1)
                        refine ⟨_, rfl, ?_⟩
                        have n0_ := ak (Kd.R_below (by (with_reducible repeat (first | apply Kd.R_alloc | apply Kd.R_drewN | apply Kd.R_drew)); exact HO_7.out) hb)
                        have n1_ := ak (below_step (by repeat (first | (with_reducible first | exact HB.out | apply wA | apply wN | apply wD) | exact HB.out)) hb)
                        clear HO_7 HB
                        have HO_7 := n0_
                        have HB := n1_
                        clear n0_ n1_
                        (try clear hb)
                        (try clear hb2)
                        (try clear hk)
                        (try clear hi)
                        refine hK.out _ _ ⟨HS0_, ((HB.out.cell (World.block_lt_of_cell? w _ hw414_0)).trans hw414_0), ((HB.out.cell (World.block_lt_of_cell? w _ hw414_1)).trans hw414_1), ((HB.out.cell (World.block_lt_of_cell? w _ hw414_2)).trans hw414_2), ((HB.out.cell (World.block_lt_of_cell? w _ hw414_3)).trans hw414_3), HS5_, ((HB.out.cell (World.block_lt_of_cell? w _ hw416_0)).trans hw416_0), ((HB.out.cell (World.block_lt_of_cell? w _ hw416_1)).trans hw416_1), ((HB.out.cell (World.block_lt_of_cell? w _ hw416_2)).trans hw416_2), ((HB.out.cell (World.block_lt_of_cell? w _ hw416_3)).trans hw416_3), HS10_, ((HB.out.cell (World.block_lt_of_cell? w _ hw419_0)).trans hw419_0), ((HB.out.cell (World.block_lt_of_cell? w _ hw419_1)).trans hw419_1), ((HB.out.cell (World.block_lt_of_cell? w _ hw419_2)).trans hw419_2), ((HB.out.cell (World.block_lt_of_cell? w _ hw419_3)).trans hw419_3), HS15_, ((HB.out.cell (World.block_lt_of_cell? w _ hw421_0)).trans hw421_0), ((HB.out.cell (World.block_lt_of_cell? w _ hw421_1)).trans hw421_1), ((HB.out.cell (World.block_lt_of_cell? w _ hw421_2)).trans hw421_2), ((HB.out.cell (World.block_lt_of_cell? w _ hw421_3)).trans hw421_3)⟩ (fun hHeld => ?_)
                        clear hK K
                        refine norm_ (a' := ?_) ?_ ?_
                        rotate_left
                        ·show Act.put _ (some 139) _ = _
                         simp only [Act.put, sA_, s0_, s1_, i64_w, i32_w]
                         rfl
                        refine pure_ (i := 19) (N := some 140) (v := ?_) (a' := ?_) q5_65 rfl rfl (any_of HT_.out (by kernel_rfl)) (fun _ _ _ h => h) (Or.inl ⟨by rfl, ?_⟩) ?_ ?_; rotate_left; ·(intro w'; go_simp; with_reducible rfl)
                        rotate_left; ·(simp only [Act.put, sA_, s0_, s1_, i64_w, i32_w]; rfl)
                        refine pure_ (i := 20) (N := some 141) (v := ?_) (a' := ?_) q5_66 rfl rfl (any_of HT_.out (by kernel_rfl)) (fun _ _ _ h => h) (Or.inl ⟨by rfl, ?_⟩) ?_ ?_; rotate_left; ·(intro w'; go_simp; with_reducible rfl)
                        rotate_left; ·(simp only [Act.put, sA_, s0_, s1_, i64_w, i32_w]; rfl)
                        refine pure_ (i := 21) (N := some 142) (v := ?_) (a' := ?_) q5_67 rfl rfl (any_of HT_.out (by kernel_rfl)) (fun _ _ _ h => h) (Or.inl ⟨by rfl, ?_⟩) ?_ ?_; rotate_left; ·(intro w'; go_simp; with_reducible rfl)
                        rotate_left; ·(simp only [Act.put, sA_, s0_, s1_, i64_w, i32_w]; rfl)
                        refine pure_ (i := 22) (N := some 143) (v := ?_) (a' := ?_) q5_68 rfl rfl (any_of HT_.out (by kernel_rfl)) (fun _ _ _ h => h) (Or.inl ⟨by rfl, ?_⟩) ?_ ?_; rotate_left; ·(intro w'; go_simp; with_reducible rfl)
                        rotate_left; ·(simp only [Act.put, sA_, s0_, s1_, i64_w, i32_w]; rfl)
                        refine pure_ (i := 23) (N := some 144) (v := ?_) (a' := ?_) q5_69 rfl rfl (any_of HT_.out (by kernel_rfl)) (fun _ _ _ h => h) (Or.inl ⟨by rfl, ?_⟩) ?_ ?_; rotate_left; ·(intro w'; go_simp; with_reducible rfl)
                        rotate_left; ·(simp only [Act.put, sA_, s0_, s1_, i64_w, i32_w]; rfl)
                        refine pure_ (i := 24) (N := some 145) (v := ?_) (a' := ?_) q5_70 rfl rfl (any_of HT_.out (by kernel_rfl)) (fun _ _ _ h => h) (Or.inl ⟨by rfl, ?_⟩) ?_ ?_; rotate_left; ·(intro w'; go_simp; with_reducible rfl)
                        rotate_left; ·(simp only [Act.put, sA_, s0_, s1_, i64_w, i32_w]; rfl)
                        refine pure_ (i := 29) (N := some 150) (v := ?_) (a' := ?_) #[Y,Y,Y,Y,Y,Y,Y,Y,Y,Y,Y,Y,Y,Y,Y,Y,Y,Y,Y,Y,Y,Y,Y,Y,Y,Z,Z,Z,Z,Y,Z,Z,Z,Z,Z,Z,Z,Z,Z,Z,Z,Z] rfl rfl (any_of HT_.out (by kernel_rfl)) (fun _ _ _ h => h) (Or.inl ⟨by rfl, ?_⟩) ?_ ?_; rotate_left; ·(intro w'; go_simp; with_reducible rfl)
                        rotate_left; ·(simp only [Act.put, sA_, s0_, s1_, i64_w, i32_w]; rfl)
                        refine pure_ (i := 30) (N := some 151) (v := ?_) (a' := ?_) #[Y,Y,Y,Y,Y,Y,Y,Y,Y,Y,Y,Y,Y,Y,Y,Y,Y,Y,Y,Y,Y,Y,Y,Y,Y,Z,Z,Z,Z,Y,Y,Z,Z,Z,Z,Z,Z,Z,Z,Z,Z,Z] rfl rfl (any_of HT_.out (by kernel_rfl)) (fun _ _ _ h => h) (Or.inl ⟨by rfl, ?_⟩) ?_ ?_; rotate_left; ·(intro w'; go_simp; with_reducible rfl)
                        rotate_left; ·(simp only [Act.put, sA_, s0_, s1_, i64_w, i32_w]; rfl)
                        refine pure_ (i := 31) (N := some 152) (v := ?_) (a' := ?_) #[Y,Y,Y,Y,Y,Y,Y,Y,Y,Y,Y,Y,Y,Y,Y,Y,Y,Y,Y,Y,Y,Y,Y,Y,Y,Z,Z,Z,Z,Y,Y,Y,Z,Z,Z,Z,Z,Z,Z,Z,Z,Z] rfl rfl (any_of HT_.out (by kernel_rfl)) (fun _ _ _ h => h) (Or.inl ⟨by rfl, ?_⟩) ?_ ?_; rotate_left; ·(intro w'; go_simp; with_reducible rfl)
                        rotate_left; ·(simp only [Act.put, sA_, s0_, s1_, i64_w, i32_w]; rfl)
                        refine pure_ (i := 32) (N := some 153) (v := ?_) (a' := ?_) #[Y,Y,Y,Y,Y,Y,Y,Y,Y,Y,Y,Y,Y,Y,Y,Y,Y,Y,Y,Y,Y,Y,Y,Y,Y,Z,Z,Z,Z,Y,Y,Y,Y,Z,Z,Z,Z,Z,Z,Z,Z,Z] rfl rfl (any_of HT_.out (by kernel_rfl)) (fun _ _ _ h => h) (Or.inl ⟨by rfl, ?_⟩) ?_ ?_; rotate_left; ·(intro w'; go_simp; with_reducible rfl)
                        rotate_left; ·(simp only [Act.put, sA_, s0_, s1_, i64_w, i32_w]; rfl)
                        refine take_ (i := 25) (N := some 146) (v := ?_) (a' := ?_) #[Y,Y,Y,Y,Y,Y,Y,Y,Y,Y,Y,Y,Y,Y,Y,Y,Y,Y,Y,Y,Y,Y,Y,Y,Y,Y,Z,Z,Z,Y,Y,Y,Y,Z,Z,Z,Z,Z,Z,Z,Z,Z] rfl rfl (take_ofW HT_.out HW_.out (by kernel_rfl)) (fun _ _ _ h => h) (Or.inl ⟨by rfl, ?_⟩) hHeld ?_ ?_; rotate_left; ·(rintro w' ⟨s0, s1, s2, s3, s4, s5, s6, s7, s8, s9, s10, s11, s12, s13, s14, s15, s16, s17, s18, s19⟩; go_simp; with_reducible rfl)
                        rotate_left; ·(simp only [Act.put, sA_, s0_, s1_, i64_w, i32_w]; rfl)
                        refine pure_ (i := 26) (N := some 147) (v := ?_) (a' := ?_) #[Y,Y,Y,Y,Y,Y,Y,Y,Y,Y,Y,Y,Y,Y,Y,Y,Y,Y,Y,Y,Y,Y,Y,Y,Y,Y,Y,Z,Z,Y,Y,Y,Y,Z,Z,Z,Z,Z,Z,Z,Z,Z] rfl rfl (any_of HT_.out (by kernel_rfl)) (fun _ _ _ h => h) (Or.inl ⟨by rfl, ?_⟩) ?_ ?_; rotate_left; ·(intro w'; go_simp; with_reducible rfl)
                        rotate_left; ·(simp only [Act.put, sA_, s0_, s1_, i64_w, i32_w]; rfl)
                        refine pure_ (i := 27) (N := some 148) (v := ?_) (a' := ?_) #[Y,Y,Y,Y,Y,Y,Y,Y,Y,Y,Y,Y,Y,Y,Y,Y,Y,Y,Y,Y,Y,Y,Y,Y,Y,Y,Y,Y,Z,Y,Y,Y,Y,Z,Z,Z,Z,Z,Z,Z,Z,Z] rfl rfl (any_of HT_.out (by kernel_rfl)) (fun _ _ _ h => h) (Or.inl ⟨by rfl, ?_⟩) ?_ ?_; rotate_left; ·(intro w'; go_simp; with_reducible rfl)
                        rotate_left; ·(simp only [Act.put, sA_, s0_, s1_, i64_w, i32_w]; rfl)
                        refine take_ (i := 28) (N := some 149) (v := ?_) (a' := ?_) q5_78 rfl rfl (take_ofW HT_.out HW_.out (by kernel_rfl)) (fun _ _ _ h => h) (Or.inl ⟨by rfl, ?_⟩) hHeld ?_ ?_; rotate_left; ·(rintro w' ⟨s0, s1, s2, s3, s4, s5, s6, s7, s8, s9, s10, s11, s12, s13, s14, s15, s16, s17, s18, s19⟩; go_simp; with_reducible rfl)
                        rotate_left; ·(simp only [Act.put, sA_, s0_, s1_, i64_w, i32_w]; rfl)
                        refine take_ (i := 33) (N := some 154) (v := ?_) (a' := ?_) q5_79 rfl rfl (take_ofW HT_.out HW_.out (by kernel_rfl)) (fun _ _ _ h => h) (Or.inl ⟨by rfl, ?_⟩) hHeld ?_ ?_; rotate_left; ·(rintro w' ⟨s0, s1, s2, s3, s4, s5, s6, s7, s8, s9, s10, s11, s12, s13, s14, s15, s16, s17, s18, s19⟩; go_simp; with_reducible rfl)
                        rotate_left; ·(simp only [Act.put, sA_, s0_, s1_, i64_w, i32_w]; rfl)
                        refine pure_ (i := 34) (N := some 155) (v := ?_) (a' := ?_) q5_80 rfl rfl (any_of HT_.out (by kernel_rfl)) (fun _ _ _ h => h) (Or.inl ⟨by rfl, ?_⟩) ?_ ?_; rotate_left; ·(intro w'; go_simp; with_reducible rfl)
                        rotate_left; ·(simp only [Act.put, sA_, s0_, s1_, i64_w, i32_w]; rfl)
                        refine pure_ (i := 35) (N := some 156) (v := ?_) (a' := ?_) q5_81 rfl rfl (any_of HT_.out (by kernel_rfl)) (fun _ _ _ h => h) (Or.inl ⟨by rfl, ?_⟩) ?_ ?_; rotate_left; ·(intro w'; go_simp; with_reducible rfl)
                        rotate_left; ·(simp only [Act.put, sA_, s0_, s1_, i64_w, i32_w]; rfl)
                        refine take_ (i := 36) (N := some 157) (v := ?_) (a' := ?_) q5_82 rfl rfl (take_ofW HT_.out HW_.out (by kernel_rfl)) (fun _ _ _ h => h) (Or.inl ⟨by rfl, ?_⟩) hHeld ?_ ?_; rotate_left; ·(rintro w' ⟨s0, s1, s2, s3, s4, s5, s6, s7, s8, s9, s10, s11, s12, s13, s14, s15, s16, s17, s18, s19⟩; go_simp; with_reducible rfl)
                        rotate_left; ·(simp only [Act.put, sA_, s0_, s1_, i64_w, i32_w]; rfl)
                        refine one_ (i := 37) (N := some 158) q5_83 rfl rfl (one_of HT_.out (by kernel_rfl)) (by decide) (fun K hK => ?_)
                        refine goes_ Try.func22 (by kernel_rfl) rfl #[.string ((rd_T24 l0 (rd t391 x14_4)).f1), .string ((rd_T24 l0 (rd t391 x13_1)).f1)] (by rfl) rfl rfl (by (try simp only [List.map_toArray, List.map_cons, List.map_nil]); first | done | rfl | (simp only [List.length_drop, List.length_take]; rfl)) ?_
                        with_reducible refine (mummerlaw11_sub.calls k4 ((rd_T24 l0 (rd t391 x14_4)).f1) ((rd_T24 l0 (rd t391 x13_1)).f1) t422 _ A62.out).mono ?_
                        rintro e w65 ⟨rfl, hb⟩
                        have HS0_ := (hb.cell (World.block_lt_of_cell? _ _ (hHeld.1))).trans (hHeld.1)
                        have HS5_ := (hb.cell (World.block_lt_of_cell? _ _ (hHeld.2.2.2.2.2.1))).trans (hHeld.2.2.2.2.2.1)
                        have HS10_ := (hb.cell (World.block_lt_of_cell? _ _ (hHeld.2.2.2.2.2.2.2.2.2.2.1))).trans (hHeld.2.2.2.2.2.2.2.2.2.2.1)
                        have HS15_ := (hb.cell (World.block_lt_of_cell? _ _ (hHeld.2.2.2.2.2.2.2.2.2.2.2.2.2.2.2.1))).trans (hHeld.2.2.2.2.2.2.2.2.2.2.2.2.2.2.2.1)
                        refine ⟨_, rfl, ?_⟩
                        have n0_ := ak (Kd.R_below (by (with_reducible repeat (first | apply Kd.R_alloc | apply Kd.R_drewN | apply Kd.R_drew)); exact HO_7.out) hb)
                        have n1_ := ak (below_step (by repeat (first | (with_reducible first | exact HB.out | apply wA | apply wN | apply wD) | exact HB.out)) hb)
                        clear HO_7 HB
                        have HO_7 := n0_
                        have HB := n1_
                        clear n0_ n1_
                        (try clear hb)
                        (try clear hb2)
                        (try clear hk)
                        (try clear hi)
                        refine hK.out _ _ ⟨HS0_, ((HB.out.cell (World.block_lt_of_cell? w _ hw414_0)).trans hw414_0), ((HB.out.cell (World.block_lt_of_cell? w _ hw414_1)).trans hw414_1), ((HB.out.cell (World.block_lt_of_cell? w _ hw414_2)).trans hw414_2), ((HB.out.cell (World.block_lt_of_cell? w _ hw414_3)).trans hw414_3), HS5_, ((HB.out.cell (World.block_lt_of_cell? w _ hw416_0)).trans hw416_0), ((HB.out.cell (World.block_lt_of_cell? w _ hw416_1)).trans hw416_1), ((HB.out.cell (World.block_lt_of_cell? w _ hw416_2)).trans hw416_2), ((HB.out.cell (World.block_lt_of_cell? w _ hw416_3)).trans hw416_3), HS10_, ((HB.out.cell (World.block_lt_of_cell? w _ hw419_0)).trans hw419_0), ((HB.out.cell (World.block_lt_of_cell? w _ hw419_1)).trans hw419_1), ((HB.out.cell (World.block_lt_of_cell? w _ hw419_2)).trans hw419_2), ((HB.out.cell (World.block_lt_of_cell? w _ hw419_3)).trans hw419_3), HS15_, ((HB.out.cell (World.block_lt_of_cell? w _ hw421_0)).trans hw421_0), ((HB.out.cell (World.block_lt_of_cell? w _ hw421_1)).trans hw421_1), ((HB.out.cell (World.block_lt_of_cell? w _ hw421_2)).trans hw421_2), ((HB.out.cell (World.block_lt_of_cell? w _ hw421_3)).trans hw421_3)⟩ (fun hHeld => ?_)
                        clear hK K
                        refine norm_ (a' := ?_) ?_ ?_
                        rotate_left
                        ·show Act.put _ (some 158) _ = _
                         simp only [Act.put, sA_, s0_, s1_, i64_w, i32_w]
                         rfl
                        refine pure_ (i := 38) (N := some 159) (v := ?_) (a' := ?_) q5_84 rfl rfl (any_of HT_.out (by kernel_rfl)) (fun _ _ _ h => h) (Or.inl ⟨by rfl, ?_⟩) ?_ ?_; rotate_left; ·(intro w'; go_simp; with_reducible rfl)
                        rotate_left; ·(simp only [Act.put, sA_, s0_, s1_, i64_w, i32_w]; rfl)
                        refine pure_ (i := 39) (N := some 160) (v := ?_) (a' := ?_) q5_85 rfl rfl (any_of HT_.out (by kernel_rfl)) (fun _ _ _ h => h) (Or.inl ⟨by rfl, ?_⟩) ?_ ?_; rotate_left; ·(intro w'; go_simp; with_reducible rfl)
                        rotate_left; ·(simp only [Act.put, sA_, s0_, s1_, i64_w, i32_w]; rfl)
                        refine pure_ (i := 40) (N := some 161) (v := ?_) (a' := ?_) q5_86 rfl rfl (any_of HT_.out (by kernel_rfl)) (fun _ _ _ h => h) (Or.inl ⟨by rfl, ?_⟩) ?_ ?_; rotate_left; ·(intro w'; go_simp; with_reducible rfl)
                        rotate_left; ·(simp only [Act.put, sA_, s0_, s1_, i64_w, i32_w]; rfl)
                        refine pure_ (i := 41) (N := some 12) (v := ?_) (a' := ?_) q5_87 rfl rfl (any_of HT_.out (by kernel_rfl)) (fun _ _ _ h => h) (Or.inl ⟨by rfl, ?_⟩) ?_ ?_; rotate_left; ·(intro w'; go_simp; with_reducible rfl)
                        rotate_left; ·(simp only [Act.put, sA_, s0_, s1_, i64_w, i32_w]; rfl)
                        refine done_ (done_of HT_.out (by kernel_rfl)) ?_
                        try go_wp2
                        go_roundg k4
                        case measure => have := HK1.out; have := HJ19.out; have := HJ42.out; have := HK4.out; omega
                        case rel => exact ⟨(!t422), (wrap64 (x14_4 + 1)), (by first | rfl | (simp; done) | (simp [*]; done)), (by first | rfl | (simp; done) | (simp [*]; done)), H', ⟨by have := HK1.out; have := HJ19.out; have := HJ42.out; have := HK4.out; omega⟩, ⟨by (with_reducible repeat (first | apply Kd.R_alloc | apply Kd.R_drewN | apply Kd.R_drew)); exact HO_7.out⟩, ⟨by repeat (first | (with_reducible first | exact HB.out | apply wA | apply wN | apply wD) | exact HB.out)⟩⟩
                      ·rw [if_neg c57] at H
                       exact absurd H (by simp)
                     ·rw [if_neg c56] at H
                      exact absurd H (by simp)
                    ·rw [if_neg c55] at H
                     exact absurd H (by simp)
                   ·rw [if_neg c54] at H
                    exact absurd H (by simp)
                  ·rw [if_neg c53] at H
                   exact absurd H (by simp)
                 ·rw [if_neg c52] at H
                  exact absurd H (by simp)
                ·rw [if_neg c51] at H
                 exact absurd H (by simp)
               ·rw [if_neg c50] at H
                exact absurd H (by simp)
             ·rw [if_neg c47] at H
              have c47b0 : decide (x14_4 < x13_1) = false := decide_eq_false c47
              clear c47
              have H' := ak H
              clear H
              go_wp2
              go_roundg k4
              case measure => have := HK1.out; have := HJ19.out; have := HJ42.out; have := HK4.out; omega
              case rel => exact ⟨(x11_42), (x12_4), (wrap64 (x13_1 + 1)), (by first | rfl | (simp; done) | (simp [*]; done)), (by first | rfl | (simp; done) | (simp [*]; done)), (by first | rfl | (simp; done) | (simp [*]; done)), H', ⟨by have := HK1.out; have := HJ19.out; have := HJ42.out; have := HK4.out; omega⟩, ⟨by (with_reducible repeat (first | apply Kd.R_alloc | apply Kd.R_drewN | apply Kd.R_drew)); exact HO_7.out⟩, ⟨by repeat (first | (with_reducible first | exact HB.out | apply wA | apply wN | apply wD) | exact HB.out)⟩⟩
     ·rw [if_neg c19] at H
      have c19b0 : decide (x13_1 < (t391.length : Int)) = false := decide_eq_false c19
      clear c19
      have H' := ak H
      clear H
      obtain ⟨Ao66, co66, eo66⟩ := Kd.R_slice HO_7.out
      subst eo66
      go_wp2
      go_loopg [15, 16] k1 (fun kq v15 v16 w' => ∃ (x15_2 : Int) (x16_2 : Int), v15 = .int .i64 x15_2 ∧ v16 = .int .i64 x16_2 ∧ Aside0 (mummerlaw11_BindsGreatest.l2 kq l0 a1 a2 t391 t395 t396 x11_1 x12_1 x15_2 x16_2 = some r) ∧ Aside0 (kq ≤ k1) ∧ Aside0 (Kd.R (Kd.int .i64) 3 w' w.heap.size (fun _ => True) (.slice Ao66 t391.length co66) t391) ∧ Aside0 (Below w.heap.size w w'))
      case atStart => exact ⟨(0), (0), (by first | rfl | (simp; done) | (simp [*]; done)), (by first | rfl | (simp; done) | (simp [*]; done)), H', ⟨Nat.le_refl _⟩, ⟨by (with_reducible repeat (first | apply Kd.R_alloc | apply Kd.R_drewN | apply Kd.R_drew)); exact HO_7.out⟩, ⟨by repeat (first | (with_reducible first | exact HB.out | apply wA | apply wN | apply wD) | exact HB.out)⟩⟩
      case round =>
       clear H'
       try clear c1
       try clear c2
       try clear p2
       try clear c4
       try clear p4
       try clear q4
       try clear hx4
       try clear c5
       try clear p6
       try clear c19
       try clear c19b0
       try clear c22
       try clear p41
       try clear q41
       try clear hx41
       try clear p42
       try clear q42
       try clear hx42
       try clear c47
       try clear c47b0
       try clear c50
       try clear c51
       try clear c52
       try clear c53
       try clear c54
       try clear c55
       try clear c56
       try clear c57
       try clear c59
       try clear p64
       try clear hx413_0
       try clear hx414_0
       try clear hx414_1
       try clear hx414_2
       try clear hx414_3
       try clear hx415_0
       try clear hx416_0
       try clear hx416_1
       try clear hx416_2
       try clear hx416_3
       try clear hx418_0
       try clear hx419_0
       try clear hx419_1
       try clear hx419_2
       try clear hx419_3
       try clear hx420_0
       try clear hx421_0
       try clear hx421_1
       try clear hx421_2
       try clear hx421_3
       try clear p413
       try clear p414
       try clear p415
       try clear p416
       try clear p418
       try clear p419
       try clear p420
       try clear p421
       try clear q413
       try clear q414
       try clear q415
       try clear q416
       try clear q418
       try clear q419
       try clear q420
       try clear q421
       obtain ⟨x15_2, x16_2, rfl, rfl, HA, HK2, HO_7, HB⟩ := hrel
       cases gk with
       | zero => exact absurd HA.out (by simp [mummerlaw11_BindsGreatest.l2])
       | succ k2 =>
        have H := HA.out
        clear HA
        simp only [mummerlaw11_BindsGreatest.l2] at H
        by_cases c67 : x16_2 < (l0.length : Int)
        ·rw [if_pos c67] at H
         have c67b0 : decide (x16_2 < (l0.length : Int)) = true := decide_eq_true c67
         clear c67
         by_cases c68 : 0 ≤ x16_2
         ·rw [if_pos c68] at H
          have c68b0 : decide (0 ≤ x16_2) = true := decide_eq_true c68
          clear c68
          by_cases c69 : ((rd_T24 l0 x16_2).f0).toList = a1.toList
          ·rw [if_pos c69] at H
           have c69b0 : (((rd_T24 l0 x16_2).f0).toList == a1.toList) = true := beq_iff_eq.mpr c69
           have c69b1 : (((rd_T24 l0 x16_2).f0).toList != a1.toList) = false := bne_eq_false_iff_eq.mpr c69
           clear c69
           replace H := Option.bind_eq_some_iff.mp H
           obtain ⟨t425, A700, H⟩ := H
           replace H : (if t425 = true then (mummerlaw11_BindsGreatest.l2 k2 l0 a1 a2 t391 t395 t396 x11_1 x12_1 (wrap64 (x15_2 + 1)) (wrap64 (x16_2 + 1))) else (mummerlaw11_BindsGreatest.l2 k2 l0 a1 a2 t391 t395 t396 x11_1 x12_1 x15_2 (wrap64 (x16_2 + 1)))) = some r := H
           have A70 := ak A700
           clear A700
           by_cases c71 : t425 = true
           ·subst c71
            have H1 : (mummerlaw11_BindsGreatest.l2 k2 l0 a1 a2 t391 t395 t396 x11_1 x12_1 (wrap64 (x15_2 + 1)) (wrap64 (x16_2 + 1))) = some r := by rw [if_pos rfl] at H; exact H
            clear H
            have H := H1
            clear H1
            have H' := ak H
            clear H
            have p423 : 0 ≤ (x16_2 : Int) := of_decide_eq_true (by first | (with_reducible assumption) | assumption)
            have q423 : x16_2 < (l0.length : Int) := of_decide_eq_true (by first | (with_reducible assumption) | assumption)
            obtain ⟨ad423, e423, hx423_0, hx423_1, hx423_2, hx423_3⟩ := at_T24 HR0.out x16_2 p423 q423
            cases e423
            replace hx423_0 := (HB.out.cell (World.block_lt_of_cell? w _ hx423_0)).trans hx423_0
            replace hx423_1 := (HB.out.cell (World.block_lt_of_cell? w _ hx423_1)).trans hx423_1
            replace hx423_2 := (HB.out.cell (World.block_lt_of_cell? w _ hx423_2)).trans hx423_2
            replace hx423_3 := (HB.out.cell (World.block_lt_of_cell? w _ hx423_3)).trans hx423_3
            replace p423 := eq_true p423
            replace q423 := eq_true q423
            have p424 : 0 ≤ (x16_2 : Int) := of_decide_eq_true (by first | (with_reducible assumption) | assumption)
            have q424 : x16_2 < (l0.length : Int) := of_decide_eq_true (by first | (with_reducible assumption) | assumption)
            obtain ⟨ad424, e424, hx424_0, hx424_1, hx424_2, hx424_3⟩ := at_T24 HR0.out x16_2 p424 q424
            obtain rfl : ad423 = ad424 := (by injection e424)
            replace hx424_0 := (HB.out.cell (World.block_lt_of_cell? w _ hx424_0)).trans hx424_0
            replace hx424_1 := (HB.out.cell (World.block_lt_of_cell? w _ hx424_1)).trans hx424_1
            replace hx424_2 := (HB.out.cell (World.block_lt_of_cell? w _ hx424_2)).trans hx424_2
            replace hx424_3 := (HB.out.cell (World.block_lt_of_cell? w _ hx424_3)).trans hx424_3
            replace p424 := eq_true p424
            replace q424 := eq_true q424
            go_wp2_with (first | (go_at_call 22; (with_reducible refine (mummerlaw11_sub.calls k2 ((rd_T24 l0 x16_2).f1) a2 true _ A70.out).mono ?_); rintro e w72 ⟨rfl, hb⟩; have n0_ := ak (Kd.R_below (by (with_reducible repeat (first | apply Kd.R_alloc | apply Kd.R_drewN | apply Kd.R_drew)); exact HO_7.out) hb); have n1_ := ak (below_step (by repeat (first | (with_reducible first | exact HB.out | apply wA | apply wN | apply wD) | exact HB.out)) hb); clear HO_7; clear HB; have HO_7 := n0_; have HB := n1_; clear n0_ n1_; (try clear hb); (try clear hb2); (try clear hk); (try clear hi)))
            go_roundg k2
            case measure => have := HK1.out; have := HK2.out; omega
            case rel => exact ⟨(wrap64 (x15_2 + 1)), (wrap64 (x16_2 + 1)), (by first | rfl | (simp; done) | (simp [*]; done)), (by first | rfl | (simp; done) | (simp [*]; done)), H', ⟨by have := HK1.out; have := HK2.out; omega⟩, ⟨by (with_reducible repeat (first | apply Kd.R_alloc | apply Kd.R_drewN | apply Kd.R_drew)); exact HO_7.out⟩, ⟨by repeat (first | (with_reducible first | exact HB.out | apply wA | apply wN | apply wD) | exact HB.out)⟩⟩
           ·replace c71 := Bool.eq_false_iff.mpr c71
            subst c71
            have H1 : (mummerlaw11_BindsGreatest.l2 k2 l0 a1 a2 t391 t395 t396 x11_1 x12_1 x15_2 (wrap64 (x16_2 + 1))) = some r := by rw [if_neg (show ¬ (false = true) by decide)] at H; exact H
            clear H
            have H := H1
            clear H1
            have H' := ak H
            clear H
            have p423 : 0 ≤ (x16_2 : Int) := of_decide_eq_true (by first | (with_reducible assumption) | assumption)
            have q423 : x16_2 < (l0.length : Int) := of_decide_eq_true (by first | (with_reducible assumption) | assumption)
            obtain ⟨ad423, e423, hx423_0, hx423_1, hx423_2, hx423_3⟩ := at_T24 HR0.out x16_2 p423 q423
            cases e423
            replace hx423_0 := (HB.out.cell (World.block_lt_of_cell? w _ hx423_0)).trans hx423_0
            replace hx423_1 := (HB.out.cell (World.block_lt_of_cell? w _ hx423_1)).trans hx423_1
            replace hx423_2 := (HB.out.cell (World.block_lt_of_cell? w _ hx423_2)).trans hx423_2
            replace hx423_3 := (HB.out.cell (World.block_lt_of_cell? w _ hx423_3)).trans hx423_3
            replace p423 := eq_true p423
            replace q423 := eq_true q423
            have p424 : 0 ≤ (x16_2 : Int) := of_decide_eq_true (by first | (with_reducible assumption) | assumption)
            have q424 : x16_2 < (l0.length : Int) := of_decide_eq_true (by first | (with_reducible assumption) | assumption)
            obtain ⟨ad424, e424, hx424_0, hx424_1, hx424_2, hx424_3⟩ := at_T24 HR0.out x16_2 p424 q424
            obtain rfl : ad423 = ad424 := (by injection e424)
            replace hx424_0 := (HB.out.cell (World.block_lt_of_cell? w _ hx424_0)).trans hx424_0
            replace hx424_1 := (HB.out.cell (World.block_lt_of_cell? w _ hx424_1)).trans hx424_1
            replace hx424_2 := (HB.out.cell (World.block_lt_of_cell? w _ hx424_2)).trans hx424_2
            replace hx424_3 := (HB.out.cell (World.block_lt_of_cell? w _ hx424_3)).trans hx424_3
            replace p424 := eq_true p424
            replace q424 := eq_true q424
            go_wp2_with (first | (go_at_call 22; (with_reducible refine (mummerlaw11_sub.calls k2 ((rd_T24 l0 x16_2).f1) a2 false _ A70.out).mono ?_); rintro e w73 ⟨rfl, hb⟩; have n0_ := ak (Kd.R_below (by (with_reducible repeat (first | apply Kd.R_alloc | apply Kd.R_drewN | apply Kd.R_drew)); exact HO_7.out) hb); have n1_ := ak (below_step (by repeat (first | (with_reducible first | exact HB.out | apply wA | apply wN | apply wD) | exact HB.out)) hb); clear HO_7; clear HB; have HO_7 := n0_; have HB := n1_; clear n0_ n1_; (try clear hb); (try clear hb2); (try clear hk); (try clear hi)))
            go_roundg k2
            case measure => have := HK1.out; have := HK2.out; omega
            case rel => exact ⟨(x15_2), (wrap64 (x16_2 + 1)), (by first | rfl | (simp; done) | (simp [*]; done)), (by first | rfl | (simp; done) | (simp [*]; done)), H', ⟨by have := HK1.out; have := HK2.out; omega⟩, ⟨by (with_reducible repeat (first | apply Kd.R_alloc | apply Kd.R_drewN | apply Kd.R_drew)); exact HO_7.out⟩, ⟨by repeat (first | (with_reducible first | exact HB.out | apply wA | apply wN | apply wD) | exact HB.out)⟩⟩
          ·rw [if_neg c69] at H
           have c69b0 : (((rd_T24 l0 x16_2).f0).toList == a1.toList) = false := beq_eq_false_iff_ne.mpr c69
           have c69b1 : (((rd_T24 l0 x16_2).f0).toList != a1.toList) = true := bne_iff_ne.mpr c69
           have H' := ak H
           clear H
           have p423 : 0 ≤ (x16_2 : Int) := of_decide_eq_true (by first | (with_reducible assumption) | assumption)
           have q423 : x16_2 < (l0.length : Int) := of_decide_eq_true (by first | (with_reducible assumption) | assumption)
           obtain ⟨ad423, e423, hx423_0, hx423_1, hx423_2, hx423_3⟩ := at_T24 HR0.out x16_2 p423 q423
           cases e423
           replace hx423_0 := (HB.out.cell (World.block_lt_of_cell? w _ hx423_0)).trans hx423_0
           replace hx423_1 := (HB.out.cell (World.block_lt_of_cell? w _ hx423_1)).trans hx423_1
           replace hx423_2 := (HB.out.cell (World.block_lt_of_cell? w _ hx423_2)).trans hx423_2
           replace hx423_3 := (HB.out.cell (World.block_lt_of_cell? w _ hx423_3)).trans hx423_3
           replace p423 := eq_true p423
           replace q423 := eq_true q423
           go_wp2
           go_roundg k2
           case measure => have := HK1.out; have := HK2.out; omega
           case rel => exact ⟨(x15_2), (wrap64 (x16_2 + 1)), (by first | rfl | (simp; done) | (simp [*]; done)), (by first | rfl | (simp; done) | (simp [*]; done)), H', ⟨by have := HK1.out; have := HK2.out; omega⟩, ⟨by (with_reducible repeat (first | apply Kd.R_alloc | apply Kd.R_drewN | apply Kd.R_drew)); exact HO_7.out⟩, ⟨by repeat (first | (with_reducible first | exact HB.out | apply wA | apply wN | apply wD) | exact HB.out)⟩⟩
         ·rw [if_neg c68] at H
          exact absurd H (by simp)
        ·rw [if_neg c67] at H
         have c67b0 : decide (x16_2 < (l0.length : Int)) = false := decide_eq_false c67
         clear c67
         by_cases c74 : x15_2 = (t391.length : Int)
         ·rw [if_pos c74] at H
          have c74b0 : (x15_2 == (t391.length : Int)) = true := beq_iff_eq.mpr c74
          have c74b1 : (x15_2 != (t391.length : Int)) = false := bne_eq_false_iff_eq.mpr c74
          clear c74
          by_cases c75 : t396 = 0
          ·rw [if_pos c75] at H
           have c75b0 : (t396 == 0) = true := beq_iff_eq.mpr c75
           have c75b1 : (t396 != 0) = false := bne_eq_false_iff_eq.mpr c75
           clear c75
           by_cases c76 : x11_1 = true
           ·subst c76
            have H1 : (mummerlaw11_BindsGreatest.l3 k2 l0 t391 t395 0) = some r := by rw [if_pos rfl] at H; exact H
            clear H
            have H := H1
            clear H1
            have H' := ak H
            clear H
            go_wp2
            go_loopg [17] k2 (fun kq v17 w' => ∃ (x17_3 : Int), v17 = .int .i64 x17_3 ∧ Aside0 (mummerlaw11_BindsGreatest.l3 kq l0 t391 t395 x17_3 = some r) ∧ Aside0 (kq ≤ k2) ∧ Aside0 (Kd.R (Kd.int .i64) 3 w' w.heap.size (fun _ => True) (.slice Ao66 t391.length co66) t391) ∧ Aside0 (Below w.heap.size w w'))
            case atStart => exact ⟨(0), (by first | rfl | (simp; done) | (simp [*]; done)), H', ⟨Nat.le_refl _⟩, ⟨by (with_reducible repeat (first | apply Kd.R_alloc | apply Kd.R_drewN | apply Kd.R_drew)); exact HO_7.out⟩, ⟨by repeat (first | (with_reducible first | exact HB.out | apply wA | apply wN | apply wD) | exact HB.out)⟩⟩
            case round =>
             clear H'
             try clear c1
             try clear c2
             try clear p2
             try clear c4
             try clear p4
             try clear q4
             try clear hx4
             try clear c5
             try clear c6
             try clear p6
             try clear c7
             try clear c19
             try clear c19b0
             try clear c22
             try clear p41
             try clear q41
             try clear hx41
             try clear p42
             try clear q42
             try clear hx42
             try clear c47
             try clear c47b0
             try clear c50
             try clear c51
             try clear c52
             try clear c53
             try clear c54
             try clear c55
             try clear c56
             try clear c57
             try clear c59
             try clear p64
             try clear c67
             try clear c67b0
             try clear c68
             try clear c68b0
             try clear c69
             try clear c69b0
             try clear c69b1
             try clear c71
             try clear c74
             try clear c74b0
             try clear c74b1
             try clear c75
             try clear c75b0
             try clear c75b1
             try clear c76
             try clear hx413_0
             try clear hx414_0
             try clear hx414_1
             try clear hx414_2
             try clear hx414_3
             try clear hx415_0
             try clear hx416_0
             try clear hx416_1
             try clear hx416_2
             try clear hx416_3
             try clear hx418_0
             try clear hx419_0
             try clear hx419_1
             try clear hx419_2
             try clear hx419_3
             try clear hx420_0
             try clear hx421_0
             try clear hx421_1
             try clear hx421_2
             try clear hx421_3
             try clear hx423_0
             try clear hx423_1
             try clear hx423_2
             try clear hx423_3
             try clear hx424_0
             try clear hx424_1
             try clear hx424_2
             try clear hx424_3
             try clear p2
             try clear p4
             try clear p41
             try clear p413
             try clear p414
             try clear p415
             try clear p416
             try clear p418
             try clear p419
             try clear p42
             try clear p420
             try clear p421
             try clear p423
             try clear p424
             try clear p6
             try clear p64
             try clear q4
             try clear q41
             try clear q413
             try clear q414
             try clear q415
             try clear q416
             try clear q418
             try clear q419
             try clear q42
             try clear q420
             try clear q421
             try clear q423
             try clear q424
             obtain ⟨x17_3, rfl, HA, HK3, HO_7, HB⟩ := hrel
             cases gk with
             | zero => exact absurd HA.out (by simp [mummerlaw11_BindsGreatest.l3])
             | succ k3 =>
              have H := HA.out
              clear HA
              simp only [mummerlaw11_BindsGreatest.l3] at H
              by_cases c77 : x17_3 < (t391.length : Int)
              ·rw [if_pos c77] at H
               have c77b0 : decide (x17_3 < (t391.length : Int)) = true := decide_eq_true c77
               clear c77
               by_cases c78 : 0 ≤ x17_3
               ·rw [if_pos c78] at H
                have c78b0 : decide (0 ≤ x17_3) = true := decide_eq_true c78
                clear c78
                by_cases c79 : 0 ≤ (rd t391 x17_3)
                ·rw [if_pos c79] at H
                 have c79b0 : decide (0 ≤ (rd t391 x17_3)) = true := decide_eq_true c79
                 clear c79
                 by_cases c80 : (rd t391 x17_3) < (l0.length : Int)
                 ·rw [if_pos c80] at H
                  have c80b0 : decide ((rd t391 x17_3) < (l0.length : Int)) = true := decide_eq_true c80
                  clear c80
                  by_cases c81 : 0 ≤ t395
                  ·rw [if_pos c81] at H
                   have c81b0 : decide (0 ≤ t395) = true := decide_eq_true c81
                   clear c81
                   by_cases c82 : t395 < (l0.length : Int)
                   ·rw [if_pos c82] at H
                    have c82b0 : decide (t395 < (l0.length : Int)) = true := decide_eq_true c82
                    clear c82
                    replace H := Option.bind_eq_some_iff.mp H
                    obtain ⟨t429, A830, H⟩ := H
                    replace H : (if t429 = true then (if (rd t391 x17_3) = t395 then (mummerlaw11_BindsGreatest.l3 k3 l0 t391 t395 (wrap64 (x17_3 + 1))) else (if ((rd_T24 l0 (rd t391 x17_3)).f1).toList = ((rd_T24 l0 t395).f1).toList then (some false) else (mummerlaw11_BindsGreatest.l3 k3 l0 t391 t395 (wrap64 (x17_3 + 1))))) else (some false)) = some r := H
                    have A83 := ak A830
                    clear A830
                    by_cases c84 : t429 = true
                    ·subst c84
                     have H1 : (if (rd t391 x17_3) = t395 then (mummerlaw11_BindsGreatest.l3 k3 l0 t391 t395 (wrap64 (x17_3 + 1))) else (if ((rd_T24 l0 (rd t391 x17_3)).f1).toList = ((rd_T24 l0 t395).f1).toList then (some false) else (mummerlaw11_BindsGreatest.l3 k3 l0 t391 t395 (wrap64 (x17_3 + 1))))) = some r := by rw [if_pos rfl] at H; exact H
                     clear H
                     have H := H1
                     clear H1
                     by_cases c85 : (rd t391 x17_3) = t395
                     ·rw [if_pos c85] at H
                      have c85b0 : ((rd t391 x17_3) == t395) = true := beq_iff_eq.mpr c85
                      have c85b1 : ((rd t391 x17_3) != t395) = false := bne_eq_false_iff_eq.mpr c85
                      clear c85
                      have H' := ak H
                      clear H
                      try go_wp2
                      have n0_ := ak (Kd.R_drew HO_7.out)
                      have n1_ := ak (wD HB.out)
                      clear HO_7 HB
                      have HO_7 := n0_
                      have HB := n1_
                      clear n0_ n1_
                      have p426 : 0 ≤ (x17_3 : Int) := of_decide_eq_true (by first | (with_reducible assumption) | assumption)
                      have q426 : x17_3 < (t391.length : Int) := of_decide_eq_true (by first | (with_reducible assumption) | assumption)
                      obtain ⟨ad426, e426, hx426_0⟩ := Kd.at_int (Kd.R_reads' HO_7.out).2.2 x17_3 p426 q426
                      cases e426
                      replace p426 := eq_true p426
                      replace q426 := eq_true q426
                      have p427 : 0 ≤ ((rd t391 x17_3) : Int) := of_decide_eq_true (by first | (with_reducible assumption) | assumption)
                      have q427 : (rd t391 x17_3) < (l0.length : Int) := of_decide_eq_true (by first | (with_reducible assumption) | assumption)
                      obtain ⟨ad427, e427, hx427_0, hx427_1, hx427_2, hx427_3⟩ := at_T24 HR0.out (rd t391 x17_3) p427 q427
                      have hw427_3 := hx427_3
                      have hw427_2 := hx427_2
                      have hw427_1 := hx427_1
                      have hw427_0 := hx427_0
                      cases e427
                      replace hx427_0 := (HB.out.cell (World.block_lt_of_cell? w _ hx427_0)).trans hx427_0
                      replace hx427_1 := (HB.out.cell (World.block_lt_of_cell? w _ hx427_1)).trans hx427_1
                      replace hx427_2 := (HB.out.cell (World.block_lt_of_cell? w _ hx427_2)).trans hx427_2
                      replace hx427_3 := (HB.out.cell (World.block_lt_of_cell? w _ hx427_3)).trans hx427_3
                      replace p427 := eq_true p427
                      replace q427 := eq_true q427
                      have p428 : 0 ≤ (t395 : Int) := of_decide_eq_true (by first | (with_reducible assumption) | assumption)
                      have q428 : t395 < (l0.length : Int) := of_decide_eq_true (by first | (with_reducible assumption) | assumption)
                      obtain ⟨ad428, e428, hx428_0, hx428_1, hx428_2, hx428_3⟩ := at_T24 HR0.out t395 p428 q428
                      have hw428_3 := hx428_3
                      have hw428_2 := hx428_2
                      have hw428_1 := hx428_1
                      have hw428_0 := hx428_0
                      obtain rfl : ad427 = ad428 := (by injection e428)
                      replace hx428_0 := (HB.out.cell (World.block_lt_of_cell? w _ hx428_0)).trans hx428_0
                      replace hx428_1 := (HB.out.cell (World.block_lt_of_cell? w _ hx428_1)).trans hx428_1
                      replace hx428_2 := (HB.out.cell (World.block_lt_of_cell? w _ hx428_2)).trans hx428_2
                      replace hx428_3 := (HB.out.cell (World.block_lt_of_cell? w _ hx428_3)).trans hx428_3
                      replace p428 := eq_true p428
                      replace q428 := eq_true q428
                      have p430 : 0 ≤ (x17_3 : Int) := of_decide_eq_true (by first | (with_reducible assumption) | assumption)
                      have q430 : x17_3 < (t391.length : Int) := of_decide_eq_true (by first | (with_reducible assumption) | assumption)
                      obtain ⟨ad430, e430, hx430_0⟩ := Kd.at_int (Kd.R_reads' HO_7.out).2.2 x17_3 p430 q430
                      obtain rfl : ad426 = ad430 := (by injection e430)
                      replace p430 := eq_true p430
                      replace q430 := eq_true q430
                      refine start_ (n := 39) (S := fun w' => w'.cell? (ad426.add (x17_3).toNat) = some (.int .i64 (rd t391 x17_3)) ∧ w'.cell? (ad427.add (((rd t391 x17_3)).toNat * 4)) = some (.string ((rd_T24 l0 (rd t391 x17_3)).f0)) ∧ w'.cell? ⟨(ad427.add (((rd t391 x17_3)).toNat * 4)).block, (ad427.add (((rd t391 x17_3)).toNat * 4)).off + 1, none⟩ = some (.string ((rd_T24 l0 (rd t391 x17_3)).f1)) ∧ w'.cell? ⟨(ad427.add (((rd t391 x17_3)).toNat * 4)).block, (ad427.add (((rd t391 x17_3)).toNat * 4)).off + 2, none⟩ = some (.int .i64 ((rd_T24 l0 (rd t391 x17_3)).f2)) ∧ w'.cell? ⟨(ad427.add (((rd t391 x17_3)).toNat * 4)).block, (ad427.add (((rd t391 x17_3)).toNat * 4)).off + 3, none⟩ = some (.int .i64 ((rd_T24 l0 (rd t391 x17_3)).f3)) ∧ w'.cell? (ad427.add ((t395).toNat * 4)) = some (.string ((rd_T24 l0 t395).f0)) ∧ w'.cell? ⟨(ad427.add ((t395).toNat * 4)).block, (ad427.add ((t395).toNat * 4)).off + 1, none⟩ = some (.string ((rd_T24 l0 t395).f1)) ∧ w'.cell? ⟨(ad427.add ((t395).toNat * 4)).block, (ad427.add ((t395).toNat * 4)).off + 2, none⟩ = some (.int .i64 ((rd_T24 l0 t395).f2)) ∧ w'.cell? ⟨(ad427.add ((t395).toNat * 4)).block, (ad427.add ((t395).toNat * 4)).off + 3, none⟩ = some (.int .i64 ((rd_T24 l0 t395).f3)) ∧ w'.cell? (ad426.add (x17_3).toNat) = some (.int .i64 (rd t391 x17_3))) (ds := []) q5_95 (by kernel_rfl) rfl rfl ⟨hx426_0, ((HB.out.cell (World.block_lt_of_cell? w _ hw427_0)).trans hw427_0), ((HB.out.cell (World.block_lt_of_cell? w _ hw427_1)).trans hw427_1), ((HB.out.cell (World.block_lt_of_cell? w _ hw427_2)).trans hw427_2), ((HB.out.cell (World.block_lt_of_cell? w _ hw427_3)).trans hw427_3), ((HB.out.cell (World.block_lt_of_cell? w _ hw428_0)).trans hw428_0), ((HB.out.cell (World.block_lt_of_cell? w _ hw428_1)).trans hw428_1), ((HB.out.cell (World.block_lt_of_cell? w _ hw428_2)).trans hw428_2), ((HB.out.cell (World.block_lt_of_cell? w _ hw428_3)).trans hw428_3), hx430_0⟩ (fun hHeld => ?_); refine with_tabW mummerlaw11_BindsGreatest.tab33 mummerlaw11_BindsGreatest.bits33 (fun HT_ HW_ => ?_)
                      generalize wr.drew = w86 at HO_7 HB hx426_0 hx427_0 hx427_1 hx427_2 hx427_3 hx428_0 hx428_1 hx428_2 hx428_3 hx430_0 hHeld ⊢
                      refine pure_ (i := 0) (N := some 201) (v := ?_) (a' := ?_) q5_96 rfl rfl (any_of HT_.out (by kernel_rfl)) (fun _ _ _ h => h) (Or.inl ⟨by rfl, ?_⟩) ?_ ?_; rotate_left; ·(intro w'; go_simp; with_reducible rfl)
                      rotate_left; ·(simp only [Act.put, sA_, s0_, s1_, i64_w, i32_w]; rfl)
                      refine pure_ (i := 1) (N := some 202) (v := ?_) (a' := ?_) q5_97 rfl rfl (any_of HT_.out (by kernel_rfl)) (fun _ _ _ h => h) (Or.inl ⟨by rfl, ?_⟩) ?_ ?_; rotate_left; ·(intro w'; go_simp; with_reducible rfl)
                      rotate_left; ·(simp only [Act.put, sA_, s0_, s1_, i64_w, i32_w]; rfl)
                      refine pure_ (i := 2) (N := some 203) (v := ?_) (a' := ?_) q5_98 rfl rfl (any_of HT_.out (by kernel_rfl)) (fun _ _ _ h => h) (Or.inl ⟨by rfl, ?_⟩) ?_ ?_; rotate_left; ·(intro w'; go_simp; with_reducible rfl)
                      rotate_left; ·(simp only [Act.put, sA_, s0_, s1_, i64_w, i32_w]; rfl)
                      refine pure_ (i := 3) (N := some 204) (v := ?_) (a' := ?_) q5_99 rfl rfl (any_of HT_.out (by kernel_rfl)) (fun _ _ _ h => h) (Or.inl ⟨by rfl, ?_⟩) ?_ ?_; rotate_left; ·(intro w'; go_simp; with_reducible rfl)
                      rotate_left; ·(simp only [Act.put, sA_, s0_, s1_, i64_w, i32_w]; rfl)
                      refine pure_ (i := 8) (N := some 209) (v := ?_) (a' := ?_) q5_100 rfl rfl (any_of HT_.out (by kernel_rfl)) (fun _ _ _ h => h) (Or.inl ⟨by rfl, ?_⟩) ?_ ?_; rotate_left; ·(intro w'; go_simp; with_reducible rfl)
                      rotate_left; ·(simp only [Act.put, sA_, s0_, s1_, i64_w, i32_w]; rfl)
                      refine pure_ (i := 9) (N := some 210) (v := ?_) (a' := ?_) q5_101 rfl rfl (any_of HT_.out (by kernel_rfl)) (fun _ _ _ h => h) (Or.inl ⟨by rfl, ?_⟩) ?_ ?_; rotate_left; ·(intro w'; go_simp; with_reducible rfl)
                      rotate_left; ·(simp only [Act.put, sA_, s0_, s1_, i64_w, i32_w]; rfl)
                      refine pure_ (i := 10) (N := some 211) (v := ?_) (a' := ?_) q5_102 rfl rfl (any_of HT_.out (by kernel_rfl)) (fun _ _ _ h => h) (Or.inl ⟨by rfl, ?_⟩) ?_ ?_; rotate_left; ·(intro w'; go_simp; with_reducible rfl)
                      rotate_left; ·(simp only [Act.put, sA_, s0_, s1_, i64_w, i32_w]; rfl)
                      refine pure_ (i := 11) (N := some 212) (v := ?_) (a' := ?_) q5_103 rfl rfl (any_of HT_.out (by kernel_rfl)) (fun _ _ _ h => h) (Or.inl ⟨by rfl, ?_⟩) ?_ ?_; rotate_left; ·(intro w'; go_simp; with_reducible rfl)
                      rotate_left; ·(simp only [Act.put, sA_, s0_, s1_, i64_w, i32_w]; rfl)
                      refine take_ (i := 4) (N := some 205) (v := ?_) (a' := ?_) q5_104 rfl rfl (take_ofW HT_.out HW_.out (by kernel_rfl)) (fun _ _ _ h => h) (Or.inl ⟨by rfl, ?_⟩) hHeld ?_ ?_; rotate_left; ·(rintro w' ⟨s0, s1, s2, s3, s4, s5, s6, s7, s8, s9⟩; go_simp; with_reducible rfl)
                      rotate_left; ·(simp only [Act.put, sA_, s0_, s1_, i64_w, i32_w]; rfl)
                      refine pure_ (i := 5) (N := some 206) (v := ?_) (a' := ?_) q5_105 rfl rfl (any_of HT_.out (by kernel_rfl)) (fun _ _ _ h => h) (Or.inl ⟨by rfl, ?_⟩) ?_ ?_; rotate_left; ·(intro w'; go_simp; with_reducible rfl)
                      rotate_left; ·(simp only [Act.put, sA_, s0_, s1_, i64_w, i32_w]; rfl)
                      refine pure_ (i := 6) (N := some 207) (v := ?_) (a' := ?_) q5_106 rfl rfl (any_of HT_.out (by kernel_rfl)) (fun _ _ _ h => h) (Or.inl ⟨by rfl, ?_⟩) ?_ ?_; rotate_left; ·(intro w'; go_simp; with_reducible rfl)
                      rotate_left; ·(simp only [Act.put, sA_, s0_, s1_, i64_w, i32_w]; rfl)
                      refine take_ (i := 7) (N := some 208) (v := ?_) (a' := ?_) q5_107 rfl rfl (take_ofW HT_.out HW_.out (by kernel_rfl)) (fun _ _ _ h => h) (Or.inl ⟨by rfl, ?_⟩) hHeld ?_ ?_; rotate_left; ·(rintro w' ⟨s0, s1, s2, s3, s4, s5, s6, s7, s8, s9⟩; go_simp; with_reducible rfl)
                      rotate_left; ·(simp only [Act.put, sA_, s0_, s1_, i64_w, i32_w]; rfl)
                      refine take_ (i := 12) (N := some 213) (v := ?_) (a' := ?_) q5_108 rfl rfl (take_ofW HT_.out HW_.out (by kernel_rfl)) (fun _ _ _ h => h) (Or.inl ⟨by rfl, ?_⟩) hHeld ?_ ?_; rotate_left; ·(rintro w' ⟨s0, s1, s2, s3, s4, s5, s6, s7, s8, s9⟩; go_simp; with_reducible rfl)
                      rotate_left; ·(simp only [Act.put, sA_, s0_, s1_, i64_w, i32_w]; rfl)
                      refine one_ (i := 13) (N := some 214) q5_109 rfl rfl (one_of HT_.out (by kernel_rfl)) (by decide) (fun K hK => ?_)
                      refine goes_ Try.func22 (by kernel_rfl) rfl #[.string ((rd_T24 l0 (rd t391 x17_3)).f1), .string ((rd_T24 l0 t395).f1)] (by rfl) rfl rfl (by (try simp only [List.map_toArray, List.map_cons, List.map_nil]); first | done | rfl | (simp only [List.length_drop, List.length_take]; rfl)) ?_
                      with_reducible refine (mummerlaw11_sub.calls k3 ((rd_T24 l0 (rd t391 x17_3)).f1) ((rd_T24 l0 t395).f1) true _ A83.out).mono ?_
                      rintro e w87 ⟨rfl, hb⟩
                      have HS0_ := (hb.cell (World.block_lt_of_cell? _ _ (hHeld.1))).trans (hHeld.1)
                      have HS9_ := (hb.cell (World.block_lt_of_cell? _ _ (hHeld.2.2.2.2.2.2.2.2.2))).trans (hHeld.2.2.2.2.2.2.2.2.2)
                      refine ⟨_, rfl, ?_⟩
                      have n0_ := ak (Kd.R_below (by (with_reducible repeat (first | apply Kd.R_alloc | apply Kd.R_drewN | apply Kd.R_drew)); exact HO_7.out) hb)
                      have n1_ := ak (below_step (by repeat (first | (with_reducible first | exact HB.out | apply wA | apply wN | apply wD) | exact HB.out)) hb)
                      clear HO_7 HB
                      have HO_7 := n0_
                      have HB := n1_
                      clear n0_ n1_
                      (try clear hb)
                      (try clear hb2)
                      (try clear hk)
                      (try clear hi)
                      refine hK.out _ _ ⟨HS0_, ((HB.out.cell (World.block_lt_of_cell? w _ hw427_0)).trans hw427_0), ((HB.out.cell (World.block_lt_of_cell? w _ hw427_1)).trans hw427_1), ((HB.out.cell (World.block_lt_of_cell? w _ hw427_2)).trans hw427_2), ((HB.out.cell (World.block_lt_of_cell? w _ hw427_3)).trans hw427_3), ((HB.out.cell (World.block_lt_of_cell? w _ hw428_0)).trans hw428_0), ((HB.out.cell (World.block_lt_of_cell? w _ hw428_1)).trans hw428_1), ((HB.out.cell (World.block_lt_of_cell? w _ hw428_2)).trans hw428_2), ((HB.out.cell (World.block_lt_of_cell? w _ hw428_3)).trans hw428_3), HS9_⟩ (fun hHeld => ?_)
                      clear hK K
                      refine norm_ (a' := ?_) ?_ ?_
                      rotate_left
                      ·show Act.put _ (some 214) _ = _
                       simp only [Act.put, sA_, s0_, s1_, i64_w, i32_w]
                       rfl
                      refine pure_ (i := 14) (N := some 215) (v := ?_) (a' := ?_) q5_110 rfl rfl (any_of HT_.out (by kernel_rfl)) (fun _ _ _ h => h) (Or.inl ⟨by rfl, ?_⟩) ?_ ?_; rotate_left; ·(intro w'; go_simp; with_reducible rfl)
                      rotate_left; ·(simp only [Act.put, sA_, s0_, s1_, i64_w, i32_w]; rfl)
                      refine pure_ (i := 15) (N := some 216) (v := ?_) (a' := ?_) q5_111 rfl rfl (any_of HT_.out (by kernel_rfl)) (fun _ _ _ h => h) (Or.inl ⟨by rfl, ?_⟩) ?_ ?_; rotate_left; ·(intro w'; go_simp; with_reducible rfl)
                      rotate_left; ·(simp only [Act.put, sA_, s0_, s1_, i64_w, i32_w]; rfl)
                      refine pure_ (i := 16) (N := some 217) (v := ?_) (a' := ?_) q5_112 rfl rfl (any_of HT_.out (by kernel_rfl)) (fun _ _ _ h => h) (Or.inl ⟨by rfl, ?_⟩) ?_ ?_; rotate_left; ·(intro w'; go_simp; with_reducible rfl)
                      rotate_left; ·(simp only [Act.put, sA_, s0_, s1_, i64_w, i32_w]; rfl)
                      refine pure_ (i := 17) (N := some 218) (v := ?_) (a' := ?_) q5_113 rfl rfl (any_of HT_.out (by kernel_rfl)) (fun _ _ _ h => h) (Or.inl ⟨by rfl, ?_⟩) ?_ ?_; rotate_left; ·(intro w'; go_simp; with_reducible rfl)
                      rotate_left; ·(simp only [Act.put, sA_, s0_, s1_, i64_w, i32_w]; rfl)
                      refine pure_ (i := 18) (N := some 219) (v := ?_) (a' := ?_) q5_114 rfl rfl (any_of HT_.out (by kernel_rfl)) (fun _ _ _ h => h) (Or.inl ⟨by rfl, ?_⟩) ?_ ?_; rotate_left; ·(intro w'; go_simp; with_reducible rfl)
                      rotate_left; ·(simp only [Act.put, sA_, s0_, s1_, i64_w, i32_w]; rfl)
                      refine pure_ (i := 20) (N := some 221) (v := ?_) (a' := ?_) q5_115 rfl rfl (any_of HT_.out (by kernel_rfl)) (fun _ _ _ h => h) (Or.inl ⟨by rfl, ?_⟩) ?_ ?_; rotate_left; ·(intro w'; go_simp; with_reducible rfl)
                      rotate_left; ·(simp only [Act.put, sA_, s0_, s1_, i64_w, i32_w]; rfl)
                      refine take_ (i := 19) (N := some 220) (v := ?_) (a' := ?_) q5_116 rfl rfl (take_ofW HT_.out HW_.out (by kernel_rfl)) (fun _ _ _ h => h) (Or.inl ⟨by rfl, ?_⟩) hHeld ?_ ?_; rotate_left; ·(rintro w' ⟨s0, s1, s2, s3, s4, s5, s6, s7, s8, s9⟩; go_simp; with_reducible rfl)
                      rotate_left; ·(simp only [Act.put, sA_, s0_, s1_, i64_w, i32_w]; rfl)
                      refine pure_ (i := 21) (N := some 222) (v := ?_) (a' := ?_) q5_117 rfl rfl (any_of HT_.out (by kernel_rfl)) (fun _ _ _ h => h) (Or.inl ⟨by rfl, ?_⟩) ?_ ?_; rotate_left; ·(intro w'; go_simp; with_reducible rfl)
                      rotate_left; ·(simp only [Act.put, sA_, s0_, s1_, i64_w, i32_w]; rfl)
                      refine pure_ (i := 22) (N := some 223) (v := ?_) (a' := ?_) q5_118 rfl rfl (any_of HT_.out (by kernel_rfl)) (fun _ _ _ h => h) (Or.inl ⟨by rfl, ?_⟩) ?_ ?_; rotate_left; ·(intro w'; go_simp; with_reducible rfl)
                      rotate_left; ·(simp only [Act.put, sA_, s0_, s1_, i64_w, i32_w]; rfl)
                      refine pure_ (i := 23) (N := some 224) (v := undef) (a' := ?_) q5_119 rfl rfl (any_of HT_.out (by kernel_rfl)) (fun _ _ _ h => h) (Or.inr ⟨by rfl, rfl⟩) ?_ ?_
                      rotate_left
                      ·simp only [Act.put, sA_, s0_, s1_, i64_w, i32_w]
                       rfl
                      refine pure_ (i := 24) (N := some 225) (v := undef) (a' := ?_) q5_120 rfl rfl (any_of HT_.out (by kernel_rfl)) (fun _ _ _ h => h) (Or.inr ⟨by rfl, rfl⟩) ?_ ?_
                      rotate_left
                      ·simp only [Act.put, sA_, s0_, s1_, i64_w, i32_w]
                       rfl
                      refine pure_ (i := 25) (N := some 226) (v := undef) (a' := ?_) q5_121 rfl rfl (any_of HT_.out (by kernel_rfl)) (fun _ _ _ h => h) (Or.inr ⟨by rfl, rfl⟩) ?_ ?_
                      rotate_left
                      ·simp only [Act.put, sA_, s0_, s1_, i64_w, i32_w]
                       rfl
                      refine pure_ (i := 26) (N := some 227) (v := undef) (a' := ?_) q5_122 rfl rfl (any_of HT_.out (by kernel_rfl)) (fun _ _ _ h => h) (Or.inr ⟨by rfl, rfl⟩) ?_ ?_
                      rotate_left
                      ·simp only [Act.put, sA_, s0_, s1_, i64_w, i32_w]
                       rfl
                      refine pure_ (i := 27) (N := some 228) (v := undef) (a' := ?_) #[Y,Y,Y,Y,Y,Y,Y,Y,Y,Y,Y,Y,Y,Y,Y,Y,Y,Y,Y,Y,Y,Y,Y,Y,Y,Y,Y,Y,Z,Z,Z,Z,Z,Z,Z,Z,Z,Z,Z] rfl rfl (any_of HT_.out (by kernel_rfl)) (fun _ _ _ h => h) (Or.inr ⟨by rfl, rfl⟩) ?_ ?_
                      rotate_left
                      ·simp only [Act.put, sA_, s0_, s1_, i64_w, i32_w]
                       rfl
                      refine pure_ (i := 28) (N := some 229) (v := undef) (a' := ?_) #[Y,Y,Y,Y,Y,Y,Y,Y,Y,Y,Y,Y,Y,Y,Y,Y,Y,Y,Y,Y,Y,Y,Y,Y,Y,Y,Y,Y,Y,Z,Z,Z,Z,Z,Z,Z,Z,Z,Z] rfl rfl (any_of HT_.out (by kernel_rfl)) (fun _ _ _ h => h) (Or.inr ⟨by rfl, rfl⟩) ?_ ?_
                      rotate_left
                      ·simp only [Act.put, sA_, s0_, s1_, i64_w, i32_w]
                       rfl
                      refine pure_ (i := 29) (N := some 230) (v := undef) (a' := ?_) #[Y,Y,Y,Y,Y,Y,Y,Y,Y,Y,Y,Y,Y,Y,Y,Y,Y,Y,Y,Y,Y,Y,Y,Y,Y,Y,Y,Y,Y,Y,Z,Z,Z,Z,Z,Z,Z,Z,Z] rfl rfl (any_of HT_.out (by kernel_rfl)) (fun _ _ _ h => h) (Or.inr ⟨by rfl, rfl⟩) ?_ ?_
                      rotate_left
                      ·simp only [Act.put, sA_, s0_, s1_, i64_w, i32_w]
                       rfl
                      refine pure_ (i := 30) (N := some 231) (v := undef) (a' := ?_) #[Y,Y,Y,Y,Y,Y,Y,Y,Y,Y,Y,Y,Y,Y,Y,Y,Y,Y,Y,Y,Y,Y,Y,Y,Y,Y,Y,Y,Y,Y,Y,Z,Z,Z,Z,Z,Z,Z,Z] rfl rfl (any_of HT_.out (by kernel_rfl)) (fun _ _ _ h => h) (Or.inr ⟨by rfl, rfl⟩) ?_ ?_
                      rotate_left
                      ·simp only [Act.put, sA_, s0_, s1_, i64_w, i32_w]
                       rfl
                      refine pure_ (i := 31) (N := some 232) (v := undef) (a' := ?_) #[Y,Y,Y,Y,Y,Y,Y,Y,Y,Y,Y,Y,Y,Y,Y,Y,Y,Y,Y,Y,Y,Y,Y,Y,Y,Y,Y,Y,Y,Y,Y,Y,Z,Z,Z,Z,Z,Z,Z] rfl rfl (any_of HT_.out (by kernel_rfl)) (fun _ _ _ h => h) (Or.inr ⟨by rfl, rfl⟩) ?_ ?_
                      rotate_left
                      ·simp only [Act.put, sA_, s0_, s1_, i64_w, i32_w]
                       rfl
                      refine pure_ (i := 32) (N := some 233) (v := undef) (a' := ?_) #[Y,Y,Y,Y,Y,Y,Y,Y,Y,Y,Y,Y,Y,Y,Y,Y,Y,Y,Y,Y,Y,Y,Y,Y,Y,Y,Y,Y,Y,Y,Y,Y,Y,Z,Z,Z,Z,Z,Z] rfl rfl (any_of HT_.out (by kernel_rfl)) (fun _ _ _ h => h) (Or.inr ⟨by rfl, rfl⟩) ?_ ?_
                      rotate_left
                      ·simp only [Act.put, sA_, s0_, s1_, i64_w, i32_w]
                       rfl
                      refine pure_ (i := 33) (N := some 234) (v := undef) (a' := ?_) #[Y,Y,Y,Y,Y,Y,Y,Y,Y,Y,Y,Y,Y,Y,Y,Y,Y,Y,Y,Y,Y,Y,Y,Y,Y,Y,Y,Y,Y,Y,Y,Y,Y,Y,Z,Z,Z,Z,Z] rfl rfl (any_of HT_.out (by kernel_rfl)) (fun _ _ _ h => h) (Or.inr ⟨by rfl, rfl⟩) ?_ ?_
                      rotate_left
                      ·simp only [Act.put, sA_, s0_, s1_, i64_w, i32_w]
                       rfl
                      refine pure_ (i := 34) (N := some 235) (v := undef) (a' := ?_) q5_123 rfl rfl (any_of HT_.out (by kernel_rfl)) (fun _ _ _ h => h) (Or.inr ⟨by rfl, rfl⟩) ?_ ?_
                      rotate_left
                      ·simp only [Act.put, sA_, s0_, s1_, i64_w, i32_w]
                       rfl
                      refine pure_ (i := 35) (N := some 236) (v := undef) (a' := ?_) q5_124 rfl rfl (any_of HT_.out (by kernel_rfl)) (fun _ _ _ h => h) (Or.inr ⟨by rfl, rfl⟩) ?_ ?_
                      rotate_left
                      ·simp only [Act.put, sA_, s0_, s1_, i64_w, i32_w]
                       rfl
                      refine pure_ (i := 36) (N := some 237) (v := undef) (a' := ?_) q5_125 rfl rfl (any_of HT_.out (by kernel_rfl)) (fun _ _ _ h => h) (Or.inr ⟨by rfl, rfl⟩) ?_ ?_
                      rotate_left
                      ·simp only [Act.put, sA_, s0_, s1_, i64_w, i32_w]
                       rfl
                      refine pure_ (i := 37) (N := some 238) (v := ?_) (a' := ?_) q5_126 rfl rfl (any_of HT_.out (by kernel_rfl)) (fun _ _ _ h => h) (Or.inl ⟨by rfl, ?_⟩) ?_ ?_; rotate_left; ·(intro w'; go_simp; with_reducible rfl)
                      rotate_left; ·(simp only [Act.put, sA_, s0_, s1_, i64_w, i32_w]; rfl)
                      refine pure_ (i := 38) (N := some 239) (v := ?_) (a' := ?_) q5_127 rfl rfl (any_of HT_.out (by kernel_rfl)) (fun _ _ _ h => h) (Or.inl ⟨by rfl, ?_⟩) ?_ ?_; rotate_left; ·(intro w'; go_simp; with_reducible rfl)
                      rotate_left; ·(simp only [Act.put, sA_, s0_, s1_, i64_w, i32_w]; rfl)
                      refine done_ (done_of HT_.out (by kernel_rfl)) ?_
                      try go_wp2
                      go_roundg k3
                      case measure => have := HK1.out; have := HK2.out; have := HK3.out; omega
                      case rel => exact ⟨(wrap64 (x17_3 + 1)), (by first | rfl | (simp; done) | (simp [*]; done)), H', ⟨by have := HK1.out; have := HK2.out; have := HK3.out; omega⟩, ⟨by (with_reducible repeat (first | apply Kd.R_alloc | apply Kd.R_drewN | apply Kd.R_drew)); exact HO_7.out⟩, ⟨by repeat (first | (with_reducible first | exact HB.out | apply wA | apply wN | apply wD) | exact HB.out)⟩⟩
                     ·rw [if_neg c85] at H
                      have c85b0 : ((rd t391 x17_3) == t395) = false := beq_eq_false_iff_ne.mpr c85
                      have c85b1 : ((rd t391 x17_3) != t395) = true := bne_iff_ne.mpr c85
                      by_cases c88 : ((rd_T24 l0 (rd t391 x17_3)).f1).toList = ((rd_T24 l0 t395).f1).toList
                      ·rw [if_pos c88] at H
                       have c88b0 : (((rd_T24 l0 (rd t391 x17_3)).f1).toList == ((rd_T24 l0 t395).f1).toList) = true := beq_iff_eq.mpr c88
                       have c88b1 : (((rd_T24 l0 (rd t391 x17_3)).f1).toList != ((rd_T24 l0 t395).f1).toList) = false := bne_eq_false_iff_eq.mpr c88
                       clear c88
                       exact absurd ((Option.some.inj H).trans hrt.out) (by decide)
                      ·rw [if_neg c88] at H
                       have c88b0 : (((rd_T24 l0 (rd t391 x17_3)).f1).toList == ((rd_T24 l0 t395).f1).toList) = false := beq_eq_false_iff_ne.mpr c88
                       have c88b1 : (((rd_T24 l0 (rd t391 x17_3)).f1).toList != ((rd_T24 l0 t395).f1).toList) = true := bne_iff_ne.mpr c88
                       have H' := ak H
                       clear H
                       try go_wp2
                       have n0_ := ak (Kd.R_drew HO_7.out)
                       have n1_ := ak (wD HB.out)
                       clear HO_7 HB
                       have HO_7 := n0_
                       have HB := n1_
                       clear n0_ n1_
                       have p426 : 0 ≤ (x17_3 : Int) := of_decide_eq_true (by first | (with_reducible assumption) | assumption)
                       have q426 : x17_3 < (t391.length : Int) := of_decide_eq_true (by first | (with_reducible assumption) | assumption)
                       obtain ⟨ad426, e426, hx426_0⟩ := Kd.at_int (Kd.R_reads' HO_7.out).2.2 x17_3 p426 q426
                       cases e426
                       replace p426 := eq_true p426
                       replace q426 := eq_true q426
                       have p427 : 0 ≤ ((rd t391 x17_3) : Int) := of_decide_eq_true (by first | (with_reducible assumption) | assumption)
                       have q427 : (rd t391 x17_3) < (l0.length : Int) := of_decide_eq_true (by first | (with_reducible assumption) | assumption)
                       obtain ⟨ad427, e427, hx427_0, hx427_1, hx427_2, hx427_3⟩ := at_T24 HR0.out (rd t391 x17_3) p427 q427
                       have hw427_3 := hx427_3
                       have hw427_2 := hx427_2
                       have hw427_1 := hx427_1
                       have hw427_0 := hx427_0
                       cases e427
                       replace hx427_0 := (HB.out.cell (World.block_lt_of_cell? w _ hx427_0)).trans hx427_0
                       replace hx427_1 := (HB.out.cell (World.block_lt_of_cell? w _ hx427_1)).trans hx427_1
                       replace hx427_2 := (HB.out.cell (World.block_lt_of_cell? w _ hx427_2)).trans hx427_2
                       replace hx427_3 := (HB.out.cell (World.block_lt_of_cell? w _ hx427_3)).trans hx427_3
                       replace p427 := eq_true p427
                       replace q427 := eq_true q427
                       have p428 : 0 ≤ (t395 : Int) := of_decide_eq_true (by first | (with_reducible assumption) | assumption)
                       have q428 : t395 < (l0.length : Int) := of_decide_eq_true (by first | (with_reducible assumption) | assumption)
                       obtain ⟨ad428, e428, hx428_0, hx428_1, hx428_2, hx428_3⟩ := at_T24 HR0.out t395 p428 q428
                       have hw428_3 := hx428_3
                       have hw428_2 := hx428_2
                       have hw428_1 := hx428_1
                       have hw428_0 := hx428_0
                       obtain rfl : ad427 = ad428 := (by injection e428)
                       replace hx428_0 := (HB.out.cell (World.block_lt_of_cell? w _ hx428_0)).trans hx428_0
                       replace hx428_1 := (HB.out.cell (World.block_lt_of_cell? w _ hx428_1)).trans hx428_1
                       replace hx428_2 := (HB.out.cell (World.block_lt_of_cell? w _ hx428_2)).trans hx428_2
                       replace hx428_3 := (HB.out.cell (World.block_lt_of_cell? w _ hx428_3)).trans hx428_3
                       replace p428 := eq_true p428
                       replace q428 := eq_true q428
                       have p430 : 0 ≤ (x17_3 : Int) := of_decide_eq_true (by first | (with_reducible assumption) | assumption)
                       have q430 : x17_3 < (t391.length : Int) := of_decide_eq_true (by first | (with_reducible assumption) | assumption)
                       obtain ⟨ad430, e430, hx430_0⟩ := Kd.at_int (Kd.R_reads' HO_7.out).2.2 x17_3 p430 q430
                       obtain rfl : ad426 = ad430 := (by injection e430)
                       replace p430 := eq_true p430
                       replace q430 := eq_true q430
                       have p431 : 0 ≤ (x17_3 : Int) := of_decide_eq_true (by first | (with_reducible assumption) | assumption)
                       have q431 : x17_3 < (t391.length : Int) := of_decide_eq_true (by first | (with_reducible assumption) | assumption)
                       obtain ⟨ad431, e431, hx431_0⟩ := Kd.at_int (Kd.R_reads' HO_7.out).2.2 x17_3 p431 q431
                       obtain rfl : ad426 = ad431 := (by injection e431)
                       replace p431 := eq_true p431
                       replace q431 := eq_true q431
                       have p432 : 0 ≤ ((rd t391 x17_3) : Int) := of_decide_eq_true (by first | (with_reducible assumption) | assumption)
                       have q432 : (rd t391 x17_3) < (l0.length : Int) := of_decide_eq_true (by first | (with_reducible assumption) | assumption)
                       obtain ⟨ad432, e432, hx432_0, hx432_1, hx432_2, hx432_3⟩ := at_T24 HR0.out (rd t391 x17_3) p432 q432
                       have hw432_3 := hx432_3
                       have hw432_2 := hx432_2
                       have hw432_1 := hx432_1
                       have hw432_0 := hx432_0
                       obtain rfl : ad427 = ad432 := (by injection e432)
                       replace hx432_0 := (HB.out.cell (World.block_lt_of_cell? w _ hx432_0)).trans hx432_0
                       replace hx432_1 := (HB.out.cell (World.block_lt_of_cell? w _ hx432_1)).trans hx432_1
                       replace hx432_2 := (HB.out.cell (World.block_lt_of_cell? w _ hx432_2)).trans hx432_2
                       replace hx432_3 := (HB.out.cell (World.block_lt_of_cell? w _ hx432_3)).trans hx432_3
                       replace p432 := eq_true p432
                       replace q432 := eq_true q432
                       have p433 : 0 ≤ (t395 : Int) := of_decide_eq_true (by first | (with_reducible assumption) | assumption)
                       have q433 : t395 < (l0.length : Int) := of_decide_eq_true (by first | (with_reducible assumption) | assumption)
                       obtain ⟨ad433, e433, hx433_0, hx433_1, hx433_2, hx433_3⟩ := at_T24 HR0.out t395 p433 q433
                       have hw433_3 := hx433_3
                       have hw433_2 := hx433_2
                       have hw433_1 := hx433_1
                       have hw433_0 := hx433_0
                       obtain rfl : ad427 = ad433 := (by injection e433)
                       replace hx433_0 := (HB.out.cell (World.block_lt_of_cell? w _ hx433_0)).trans hx433_0
                       replace hx433_1 := (HB.out.cell (World.block_lt_of_cell? w _ hx433_1)).trans hx433_1
                       replace hx433_2 := (HB.out.cell (World.block_lt_of_cell? w _ hx433_2)).trans hx433_2
                       replace hx433_3 := (HB.out.cell (World.block_lt_of_cell? w _ hx433_3)).trans hx433_3
                       replace p433 := eq_true p433
                       replace q433 := eq_true q433
                       refine start_ (n := 39) (S := fun w' => w'.cell? (ad426.add (x17_3).toNat) = some (.int .i64 (rd t391 x17_3)) ∧ w'.cell? (ad427.add (((rd t391 x17_3)).toNat * 4)) = some (.string ((rd_T24 l0 (rd t391 x17_3)).f0)) ∧ w'.cell? ⟨(ad427.add (((rd t391 x17_3)).toNat * 4)).block, (ad427.add (((rd t391 x17_3)).toNat * 4)).off + 1, none⟩ = some (.string ((rd_T24 l0 (rd t391 x17_3)).f1)) ∧ w'.cell? ⟨(ad427.add (((rd t391 x17_3)).toNat * 4)).block, (ad427.add (((rd t391 x17_3)).toNat * 4)).off + 2, none⟩ = some (.int .i64 ((rd_T24 l0 (rd t391 x17_3)).f2)) ∧ w'.cell? ⟨(ad427.add (((rd t391 x17_3)).toNat * 4)).block, (ad427.add (((rd t391 x17_3)).toNat * 4)).off + 3, none⟩ = some (.int .i64 ((rd_T24 l0 (rd t391 x17_3)).f3)) ∧ w'.cell? (ad427.add ((t395).toNat * 4)) = some (.string ((rd_T24 l0 t395).f0)) ∧ w'.cell? ⟨(ad427.add ((t395).toNat * 4)).block, (ad427.add ((t395).toNat * 4)).off + 1, none⟩ = some (.string ((rd_T24 l0 t395).f1)) ∧ w'.cell? ⟨(ad427.add ((t395).toNat * 4)).block, (ad427.add ((t395).toNat * 4)).off + 2, none⟩ = some (.int .i64 ((rd_T24 l0 t395).f2)) ∧ w'.cell? ⟨(ad427.add ((t395).toNat * 4)).block, (ad427.add ((t395).toNat * 4)).off + 3, none⟩ = some (.int .i64 ((rd_T24 l0 t395).f3)) ∧ w'.cell? (ad426.add (x17_3).toNat) = some (.int .i64 (rd t391 x17_3)) ∧ w'.cell? (ad426.add (x17_3).toNat) = some (.int .i64 (rd t391 x17_3)) ∧ w'.cell? (ad427.add (((rd t391 x17_3)).toNat * 4)) = some (.string ((rd_T24 l0 (rd t391 x17_3)).f0)) ∧ w'.cell? ⟨(ad427.add (((rd t391 x17_3)).toNat * 4)).block, (ad427.add (((rd t391 x17_3)).toNat * 4)).off + 1, none⟩ = some (.string ((rd_T24 l0 (rd t391 x17_3)).f1)) ∧ w'.cell? ⟨(ad427.add (((rd t391 x17_3)).toNat * 4)).block, (ad427.add (((rd t391 x17_3)).toNat * 4)).off + 2, none⟩ = some (.int .i64 ((rd_T24 l0 (rd t391 x17_3)).f2)) ∧ w'.cell? ⟨(ad427.add (((rd t391 x17_3)).toNat * 4)).block, (ad427.add (((rd t391 x17_3)).toNat * 4)).off + 3, none⟩ = some (.int .i64 ((rd_T24 l0 (rd t391 x17_3)).f3)) ∧ w'.cell? (ad427.add ((t395).toNat * 4)) = some (.string ((rd_T24 l0 t395).f0)) ∧ w'.cell? ⟨(ad427.add ((t395).toNat * 4)).block, (ad427.add ((t395).toNat * 4)).off + 1, none⟩ = some (.string ((rd_T24 l0 t395).f1)) ∧ w'.cell? ⟨(ad427.add ((t395).toNat * 4)).block, (ad427.add ((t395).toNat * 4)).off + 2, none⟩ = some (.int .i64 ((rd_T24 l0 t395).f2)) ∧ w'.cell? ⟨(ad427.add ((t395).toNat * 4)).block, (ad427.add ((t395).toNat * 4)).off + 3, none⟩ = some (.int .i64 ((rd_T24 l0 t395).f3))) (ds := []) q5_95 (by kernel_rfl) rfl rfl ⟨hx426_0, ((HB.out.cell (World.block_lt_of_cell? w _ hw427_0)).trans hw427_0), ((HB.out.cell (World.block_lt_of_cell? w _ hw427_1)).trans hw427_1), ((HB.out.cell (World.block_lt_of_cell? w _ hw427_2)).trans hw427_2), ((HB.out.cell (World.block_lt_of_cell? w _ hw427_3)).trans hw427_3), ((HB.out.cell (World.block_lt_of_cell? w _ hw428_0)).trans hw428_0), ((HB.out.cell (World.block_lt_of_cell? w _ hw428_1)).trans hw428_1), ((HB.out.cell (World.block_lt_of_cell? w _ hw428_2)).trans hw428_2), ((HB.out.cell (World.block_lt_of_cell? w _ hw428_3)).trans hw428_3), hx430_0, hx431_0, ((HB.out.cell (World.block_lt_of_cell? w _ hw432_0)).trans hw432_0), ((HB.out.cell (World.block_lt_of_cell? w _ hw432_1)).trans hw432_1), ((HB.out.cell (World.block_lt_of_cell? w _ hw432_2)).trans hw432_2), ((HB.out.cell (World.block_lt_of_cell? w _ hw432_3)).trans hw432_3), ((HB.out.cell (World.block_lt_of_cell? w _ hw433_0)).trans hw433_0), ((HB.out.cell (World.block_lt_of_cell? w _ hw433_1)).trans hw433_1), ((HB.out.cell (World.block_lt_of_cell? w _ hw433_2)).trans hw433_2), ((HB.out.cell (World.block_lt_of_cell? w _ hw433_3)).trans hw433_3)⟩ (fun hHeld => ?_); refine with_tabW mummerlaw11_BindsGreatest.tab33 mummerlaw11_BindsGreatest.bits33 (fun HT_ HW_ => ?_)
                       generalize wr.drew = w89 at HO_7 HB hx426_0 hx427_0 hx427_1 hx427_2 hx427_3 hx428_0 hx428_1 hx428_2 hx428_3 hx430_0 hx431_0 hx432_0 hx432_1 hx432_2 hx432_3 hx433_0 hx433_1 hx433_2 hx433_3 hHeld ⊢
                       refine pure_ (i := 0) (N := some 201) (v := ?_) (a' := ?_) q5_96 rfl rfl (any_of HT_.out (by kernel_rfl)) (fun _ _ _ h => h) (Or.inl ⟨by rfl, ?_⟩) ?_ ?_; rotate_left; ·(intro w'; go_simp; with_reducible rfl)
                       rotate_left; ·(simp only [Act.put, sA_, s0_, s1_, i64_w, i32_w]; rfl)
                       refine pure_ (i := 1) (N := some 202) (v := ?_) (a' := ?_) q5_97 rfl rfl (any_of HT_.out (by kernel_rfl)) (fun _ _ _ h => h) (Or.inl ⟨by rfl, ?_⟩) ?_ ?_; rotate_left; ·(intro w'; go_simp; with_reducible rfl)
                       rotate_left; ·(simp only [Act.put, sA_, s0_, s1_, i64_w, i32_w]; rfl)
                       refine pure_ (i := 2) (N := some 203) (v := ?_) (a' := ?_) q5_98 rfl rfl (any_of HT_.out (by kernel_rfl)) (fun _ _ _ h => h) (Or.inl ⟨by rfl, ?_⟩) ?_ ?_; rotate_left; ·(intro w'; go_simp; with_reducible rfl)
                       rotate_left; ·(simp only [Act.put, sA_, s0_, s1_, i64_w, i32_w]; rfl)
                       refine pure_ (i := 3) (N := some 204) (v := ?_) (a' := ?_) q5_99 rfl rfl (any_of HT_.out (by kernel_rfl)) (fun _ _ _ h => h) (Or.inl ⟨by rfl, ?_⟩) ?_ ?_; rotate_left; ·(intro w'; go_simp; with_reducible rfl)
                       rotate_left; ·(simp only [Act.put, sA_, s0_, s1_, i64_w, i32_w]; rfl)
                       refine pure_ (i := 8) (N := some 209) (v := ?_) (a' := ?_) q5_100 rfl rfl (any_of HT_.out (by kernel_rfl)) (fun _ _ _ h => h) (Or.inl ⟨by rfl, ?_⟩) ?_ ?_; rotate_left; ·(intro w'; go_simp; with_reducible rfl)
                       rotate_left; ·(simp only [Act.put, sA_, s0_, s1_, i64_w, i32_w]; rfl)
                       refine pure_ (i := 9) (N := some 210) (v := ?_) (a' := ?_) q5_101 rfl rfl (any_of HT_.out (by kernel_rfl)) (fun _ _ _ h => h) (Or.inl ⟨by rfl, ?_⟩) ?_ ?_; rotate_left; ·(intro w'; go_simp; with_reducible rfl)
                       rotate_left; ·(simp only [Act.put, sA_, s0_, s1_, i64_w, i32_w]; rfl)
                       refine pure_ (i := 10) (N := some 211) (v := ?_) (a' := ?_) q5_102 rfl rfl (any_of HT_.out (by kernel_rfl)) (fun _ _ _ h => h) (Or.inl ⟨by rfl, ?_⟩) ?_ ?_; rotate_left; ·(intro w'; go_simp; with_reducible rfl)
                       rotate_left; ·(simp only [Act.put, sA_, s0_, s1_, i64_w, i32_w]; rfl)
                       refine pure_ (i := 11) (N := some 212) (v := ?_) (a' := ?_) q5_103 rfl rfl (any_of HT_.out (by kernel_rfl)) (fun _ _ _ h => h) (Or.inl ⟨by rfl, ?_⟩) ?_ ?_; rotate_left; ·(intro w'; go_simp; with_reducible rfl)
                       rotate_left; ·(simp only [Act.put, sA_, s0_, s1_, i64_w, i32_w]; rfl)
                       refine take_ (i := 4) (N := some 205) (v := ?_) (a' := ?_) q5_104 rfl rfl (take_ofW HT_.out HW_.out (by kernel_rfl)) (fun _ _ _ h => h) (Or.inl ⟨by rfl, ?_⟩) hHeld ?_ ?_; rotate_left; ·(rintro w' ⟨s0, s1, s2, s3, s4, s5, s6, s7, s8, s9, s10, s11, s12, s13, s14, s15, s16, s17, s18⟩; go_simp; with_reducible rfl)
                       rotate_left; ·(simp only [Act.put, sA_, s0_, s1_, i64_w, i32_w]; rfl)
                       refine pure_ (i := 5) (N := some 206) (v := ?_) (a' := ?_) q5_105 rfl rfl (any_of HT_.out (by kernel_rfl)) (fun _ _ _ h => h) (Or.inl ⟨by rfl, ?_⟩) ?_ ?_; rotate_left; ·(intro w'; go_simp; with_reducible rfl)
                       rotate_left; ·(simp only [Act.put, sA_, s0_, s1_, i64_w, i32_w]; rfl)
                       refine pure_ (i := 6) (N := some 207) (v := ?_) (a' := ?_) q5_106 rfl rfl (any_of HT_.out (by kernel_rfl)) (fun _ _ _ h => h) (Or.inl ⟨by rfl, ?_⟩) ?_ ?_; rotate_left; ·(intro w'; go_simp; with_reducible rfl)
                       rotate_left; ·(simp only [Act.put, sA_, s0_, s1_, i64_w, i32_w]; rfl)
                       refine take_ (i := 7) (N := some 208) (v := ?_) (a' := ?_) q5_107 rfl rfl (take_ofW HT_.out HW_.out (by kernel_rfl)) (fun _ _ _ h => h) (Or.inl ⟨by rfl, ?_⟩) hHeld ?_ ?_; rotate_left; ·(rintro w' ⟨s0, s1, s2, s3, s4, s5, s6, s7, s8, s9, s10, s11, s12, s13, s14, s15, s16, s17, s18⟩; go_simp; with_reducible rfl)
                       rotate_left; ·(simp only [Act.put, sA_, s0_, s1_, i64_w, i32_w]; rfl)
                       refine take_ (i := 12) (N := some 213) (v := ?_) (a' := ?_) q5_108 rfl rfl (take_ofW HT_.out HW_.out (by kernel_rfl)) (fun _ _ _ h => h) (Or.inl ⟨by rfl, ?_⟩) hHeld ?_ ?_; rotate_left; ·(rintro w' ⟨s0, s1, s2, s3, s4, s5, s6, s7, s8, s9, s10, s11, s12, s13, s14, s15, s16, s17, s18⟩; go_simp; with_reducible rfl)
                       rotate_left; ·(simp only [Act.put, sA_, s0_, s1_, i64_w, i32_w]; rfl)
                       refine one_ (i := 13) (N := some 214) q5_109 rfl rfl (one_of HT_.out (by kernel_rfl)) (by decide) (fun K hK => ?_)
                       refine goes_ Try.func22 (by kernel_rfl) rfl #[.string ((rd_T24 l0 (rd t391 x17_3)).f1), .string ((rd_T24 l0 t395).f1)] (by rfl) rfl rfl (by (try simp only [List.map_toArray, List.map_cons, List.map_nil]); first | done | rfl | (simp only [List.length_drop, List.length_take]; rfl)) ?_
                       with_reducible refine (mummerlaw11_sub.calls k3 ((rd_T24 l0 (rd t391 x17_3)).f1) ((rd_T24 l0 t395).f1) true _ A83.out).mono ?_
                       rintro e w90 ⟨rfl, hb⟩
                       have HS0_ := (hb.cell (World.block_lt_of_cell? _ _ (hHeld.1))).trans (hHeld.1)
                       have HS9_ := (hb.cell (World.block_lt_of_cell? _ _ (hHeld.2.2.2.2.2.2.2.2.2.1))).trans (hHeld.2.2.2.2.2.2.2.2.2.1)
                       have HS10_ := (hb.cell (World.block_lt_of_cell? _ _ (hHeld.2.2.2.2.2.2.2.2.2.2.1))).trans (hHeld.2.2.2.2.2.2.2.2.2.2.1)
                       refine ⟨_, rfl, ?_⟩
                       have n0_ := ak (Kd.R_below (by (with_reducible repeat (first | apply Kd.R_alloc | apply Kd.R_drewN | apply Kd.R_drew)); exact HO_7.out) hb)
                       have n1_ := ak (below_step (by repeat (first | (with_reducible first | exact HB.out | apply wA | apply wN | apply wD) | exact HB.out)) hb)
                       clear HO_7 HB
                       have HO_7 := n0_
                       have HB := n1_
                       clear n0_ n1_
                       (try clear hb)
                       (try clear hb2)
                       (try clear hk)
                       (try clear hi)
                       refine hK.out _ _ ⟨HS0_, ((HB.out.cell (World.block_lt_of_cell? w _ hw427_0)).trans hw427_0), ((HB.out.cell (World.block_lt_of_cell? w _ hw427_1)).trans hw427_1), ((HB.out.cell (World.block_lt_of_cell? w _ hw427_2)).trans hw427_2), ((HB.out.cell (World.block_lt_of_cell? w _ hw427_3)).trans hw427_3), ((HB.out.cell (World.block_lt_of_cell? w _ hw428_0)).trans hw428_0), ((HB.out.cell (World.block_lt_of_cell? w _ hw428_1)).trans hw428_1), ((HB.out.cell (World.block_lt_of_cell? w _ hw428_2)).trans hw428_2), ((HB.out.cell (World.block_lt_of_cell? w _ hw428_3)).trans hw428_3), HS9_, HS10_, ((HB.out.cell (World.block_lt_of_cell? w _ hw432_0)).trans hw432_0), ((HB.out.cell (World.block_lt_of_cell? w _ hw432_1)).trans hw432_1), ((HB.out.cell (World.block_lt_of_cell? w _ hw432_2)).trans hw432_2), ((HB.out.cell (World.block_lt_of_cell? w _ hw432_3)).trans hw432_3), ((HB.out.cell (World.block_lt_of_cell? w _ hw433_0)).trans hw433_0), ((HB.out.cell (World.block_lt_of_cell? w _ hw433_1)).trans hw433_1), ((HB.out.cell (World.block_lt_of_cell? w _ hw433_2)).trans hw433_2), ((HB.out.cell (World.block_lt_of_cell? w _ hw433_3)).trans hw433_3)⟩ (fun hHeld => ?_)
                       clear hK K
                       refine norm_ (a' := ?_) ?_ ?_
                       rotate_left
                       ·show Act.put _ (some 214) _ = _
                        simp only [Act.put, sA_, s0_, s1_, i64_w, i32_w]
                        rfl
                       refine pure_ (i := 14) (N := some 215) (v := ?_) (a' := ?_) q5_110 rfl rfl (any_of HT_.out (by kernel_rfl)) (fun _ _ _ h => h) (Or.inl ⟨by rfl, ?_⟩) ?_ ?_; rotate_left; ·(intro w'; go_simp; with_reducible rfl)
                       rotate_left; ·(simp only [Act.put, sA_, s0_, s1_, i64_w, i32_w]; rfl)
                       refine pure_ (i := 15) (N := some 216) (v := ?_) (a' := ?_) q5_111 rfl rfl (any_of HT_.out (by kernel_rfl)) (fun _ _ _ h => h) (Or.inl ⟨by rfl, ?_⟩) ?_ ?_; rotate_left; ·(intro w'; go_simp; with_reducible rfl)
                       rotate_left; ·(simp only [Act.put, sA_, s0_, s1_, i64_w, i32_w]; rfl)
                       refine pure_ (i := 16) (N := some 217) (v := ?_) (a' := ?_) q5_112 rfl rfl (any_of HT_.out (by kernel_rfl)) (fun _ _ _ h => h) (Or.inl ⟨by rfl, ?_⟩) ?_ ?_; rotate_left; ·(intro w'; go_simp; with_reducible rfl)
                       rotate_left; ·(simp only [Act.put, sA_, s0_, s1_, i64_w, i32_w]; rfl)
                       refine pure_ (i := 17) (N := some 218) (v := ?_) (a' := ?_) q5_113 rfl rfl (any_of HT_.out (by kernel_rfl)) (fun _ _ _ h => h) (Or.inl ⟨by rfl, ?_⟩) ?_ ?_; rotate_left; ·(intro w'; go_simp; with_reducible rfl)
                       rotate_left; ·(simp only [Act.put, sA_, s0_, s1_, i64_w, i32_w]; rfl)
                       refine pure_ (i := 18) (N := some 219) (v := ?_) (a' := ?_) q5_114 rfl rfl (any_of HT_.out (by kernel_rfl)) (fun _ _ _ h => h) (Or.inl ⟨by rfl, ?_⟩) ?_ ?_; rotate_left; ·(intro w'; go_simp; with_reducible rfl)
                       rotate_left; ·(simp only [Act.put, sA_, s0_, s1_, i64_w, i32_w]; rfl)
                       refine pure_ (i := 20) (N := some 221) (v := ?_) (a' := ?_) q5_115 rfl rfl (any_of HT_.out (by kernel_rfl)) (fun _ _ _ h => h) (Or.inl ⟨by rfl, ?_⟩) ?_ ?_; rotate_left; ·(intro w'; go_simp; with_reducible rfl)
                       rotate_left; ·(simp only [Act.put, sA_, s0_, s1_, i64_w, i32_w]; rfl)
                       refine take_ (i := 19) (N := some 220) (v := ?_) (a' := ?_) q5_116 rfl rfl (take_ofW HT_.out HW_.out (by kernel_rfl)) (fun _ _ _ h => h) (Or.inl ⟨by rfl, ?_⟩) hHeld ?_ ?_; rotate_left; ·(rintro w' ⟨s0, s1, s2, s3, s4, s5, s6, s7, s8, s9, s10, s11, s12, s13, s14, s15, s16, s17, s18⟩; go_simp; with_reducible rfl)
                       rotate_left; ·(simp only [Act.put, sA_, s0_, s1_, i64_w, i32_w]; rfl)
                       refine pure_ (i := 21) (N := some 222) (v := ?_) (a' := ?_) q5_117 rfl rfl (any_of HT_.out (by kernel_rfl)) (fun _ _ _ h => h) (Or.inl ⟨by rfl, ?_⟩) ?_ ?_; rotate_left; ·(intro w'; go_simp; with_reducible rfl)
                       rotate_left; ·(simp only [Act.put, sA_, s0_, s1_, i64_w, i32_w]; rfl)
                       refine pure_ (i := 22) (N := some 223) (v := ?_) (a' := ?_) q5_118 rfl rfl (any_of HT_.out (by kernel_rfl)) (fun _ _ _ h => h) (Or.inl ⟨by rfl, ?_⟩) ?_ ?_; rotate_left; ·(intro w'; go_simp; with_reducible rfl)
                       rotate_left; ·(simp only [Act.put, sA_, s0_, s1_, i64_w, i32_w]; rfl)
                       refine pure_ (i := 23) (N := some 224) (v := ?_) (a' := ?_) q5_119 rfl rfl (any_of HT_.out (by kernel_rfl)) (fun _ _ _ h => h) (Or.inl ⟨by rfl, ?_⟩) ?_ ?_; rotate_left; ·(intro w'; go_simp; with_reducible rfl)
                       rotate_left; ·(simp only [Act.put, sA_, s0_, s1_, i64_w, i32_w]; rfl)
                       refine pure_ (i := 24) (N := some 225) (v := ?_) (a' := ?_) q5_120 rfl rfl (any_of HT_.out (by kernel_rfl)) (fun _ _ _ h => h) (Or.inl ⟨by rfl, ?_⟩) ?_ ?_; rotate_left; ·(intro w'; go_simp; with_reducible rfl)
                       rotate_left; ·(simp only [Act.put, sA_, s0_, s1_, i64_w, i32_w]; rfl)
                       refine pure_ (i := 25) (N := some 226) (v := ?_) (a' := ?_) q5_121 rfl rfl (any_of HT_.out (by kernel_rfl)) (fun _ _ _ h => h) (Or.inl ⟨by rfl, ?_⟩) ?_ ?_; rotate_left; ·(intro w'; go_simp; with_reducible rfl)
                       rotate_left; ·(simp only [Act.put, sA_, s0_, s1_, i64_w, i32_w]; rfl)
                       refine pure_ (i := 26) (N := some 227) (v := ?_) (a' := ?_) q5_122 rfl rfl (any_of HT_.out (by kernel_rfl)) (fun _ _ _ h => h) (Or.inl ⟨by rfl, ?_⟩) ?_ ?_; rotate_left; ·(intro w'; go_simp; with_reducible rfl)
                       rotate_left; ·(simp only [Act.put, sA_, s0_, s1_, i64_w, i32_w]; rfl)
                       refine pure_ (i := 31) (N := some 232) (v := ?_) (a' := ?_) #[Y,Y,Y,Y,Y,Y,Y,Y,Y,Y,Y,Y,Y,Y,Y,Y,Y,Y,Y,Y,Y,Y,Y,Y,Y,Y,Y,Z,Z,Z,Z,Y,Z,Z,Z,Z,Z,Z,Z] rfl rfl (any_of HT_.out (by kernel_rfl)) (fun _ _ _ h => h) (Or.inl ⟨by rfl, ?_⟩) ?_ ?_; rotate_left; ·(intro w'; go_simp; with_reducible rfl)
                       rotate_left; ·(simp only [Act.put, sA_, s0_, s1_, i64_w, i32_w]; rfl)
                       refine pure_ (i := 32) (N := some 233) (v := ?_) (a' := ?_) #[Y,Y,Y,Y,Y,Y,Y,Y,Y,Y,Y,Y,Y,Y,Y,Y,Y,Y,Y,Y,Y,Y,Y,Y,Y,Y,Y,Z,Z,Z,Z,Y,Y,Z,Z,Z,Z,Z,Z] rfl rfl (any_of HT_.out (by kernel_rfl)) (fun _ _ _ h => h) (Or.inl ⟨by rfl, ?_⟩) ?_ ?_; rotate_left; ·(intro w'; go_simp; with_reducible rfl)
                       rotate_left; ·(simp only [Act.put, sA_, s0_, s1_, i64_w, i32_w]; rfl)
                       refine pure_ (i := 33) (N := some 234) (v := ?_) (a' := ?_) #[Y,Y,Y,Y,Y,Y,Y,Y,Y,Y,Y,Y,Y,Y,Y,Y,Y,Y,Y,Y,Y,Y,Y,Y,Y,Y,Y,Z,Z,Z,Z,Y,Y,Y,Z,Z,Z,Z,Z] rfl rfl (any_of HT_.out (by kernel_rfl)) (fun _ _ _ h => h) (Or.inl ⟨by rfl, ?_⟩) ?_ ?_; rotate_left; ·(intro w'; go_simp; with_reducible rfl)
                       rotate_left; ·(simp only [Act.put, sA_, s0_, s1_, i64_w, i32_w]; rfl)
                       refine pure_ (i := 34) (N := some 235) (v := ?_) (a' := ?_) #[Y,Y,Y,Y,Y,Y,Y,Y,Y,Y,Y,Y,Y,Y,Y,Y,Y,Y,Y,Y,Y,Y,Y,Y,Y,Y,Y,Z,Z,Z,Z,Y,Y,Y,Y,Z,Z,Z,Z] rfl rfl (any_of HT_.out (by kernel_rfl)) (fun _ _ _ h => h) (Or.inl ⟨by rfl, ?_⟩) ?_ ?_; rotate_left; ·(intro w'; go_simp; with_reducible rfl)
                       rotate_left; ·(simp only [Act.put, sA_, s0_, s1_, i64_w, i32_w]; rfl)
                       refine take_ (i := 27) (N := some 228) (v := ?_) (a' := ?_) #[Y,Y,Y,Y,Y,Y,Y,Y,Y,Y,Y,Y,Y,Y,Y,Y,Y,Y,Y,Y,Y,Y,Y,Y,Y,Y,Y,Y,Z,Z,Z,Y,Y,Y,Y,Z,Z,Z,Z] rfl rfl (take_ofW HT_.out HW_.out (by kernel_rfl)) (fun _ _ _ h => h) (Or.inl ⟨by rfl, ?_⟩) hHeld ?_ ?_; rotate_left; ·(rintro w' ⟨s0, s1, s2, s3, s4, s5, s6, s7, s8, s9, s10, s11, s12, s13, s14, s15, s16, s17, s18⟩; go_simp; with_reducible rfl)
                       rotate_left; ·(simp only [Act.put, sA_, s0_, s1_, i64_w, i32_w]; rfl)
                       refine pure_ (i := 28) (N := some 229) (v := ?_) (a' := ?_) #[Y,Y,Y,Y,Y,Y,Y,Y,Y,Y,Y,Y,Y,Y,Y,Y,Y,Y,Y,Y,Y,Y,Y,Y,Y,Y,Y,Y,Y,Z,Z,Y,Y,Y,Y,Z,Z,Z,Z] rfl rfl (any_of HT_.out (by kernel_rfl)) (fun _ _ _ h => h) (Or.inl ⟨by rfl, ?_⟩) ?_ ?_; rotate_left; ·(intro w'; go_simp; with_reducible rfl)
                       rotate_left; ·(simp only [Act.put, sA_, s0_, s1_, i64_w, i32_w]; rfl)
                       refine pure_ (i := 29) (N := some 230) (v := ?_) (a' := ?_) #[Y,Y,Y,Y,Y,Y,Y,Y,Y,Y,Y,Y,Y,Y,Y,Y,Y,Y,Y,Y,Y,Y,Y,Y,Y,Y,Y,Y,Y,Y,Z,Y,Y,Y,Y,Z,Z,Z,Z] rfl rfl (any_of HT_.out (by kernel_rfl)) (fun _ _ _ h => h) (Or.inl ⟨by rfl, ?_⟩) ?_ ?_; rotate_left; ·(intro w'; go_simp; with_reducible rfl)
                       rotate_left; ·(simp only [Act.put, sA_, s0_, s1_, i64_w, i32_w]; rfl)
                       refine take_ (i := 30) (N := some 231) (v := ?_) (a' := ?_) q5_123 rfl rfl (take_ofW HT_.out HW_.out (by kernel_rfl)) (fun _ _ _ h => h) (Or.inl ⟨by rfl, ?_⟩) hHeld ?_ ?_; rotate_left; ·(rintro w' ⟨s0, s1, s2, s3, s4, s5, s6, s7, s8, s9, s10, s11, s12, s13, s14, s15, s16, s17, s18⟩; go_simp; with_reducible rfl)
                       rotate_left; ·(simp only [Act.put, sA_, s0_, s1_, i64_w, i32_w]; rfl)
                       refine take_ (i := 35) (N := some 236) (v := ?_) (a' := ?_) q5_124 rfl rfl (take_ofW HT_.out HW_.out (by kernel_rfl)) (fun _ _ _ h => h) (Or.inl ⟨by rfl, ?_⟩) hHeld ?_ ?_; rotate_left; ·(rintro w' ⟨s0, s1, s2, s3, s4, s5, s6, s7, s8, s9, s10, s11, s12, s13, s14, s15, s16, s17, s18⟩; go_simp; with_reducible rfl)
                       rotate_left; ·(simp only [Act.put, sA_, s0_, s1_, i64_w, i32_w]; rfl)
                       refine pure_ (i := 36) (N := some 237) (v := ?_) (a' := ?_) q5_125 rfl rfl (any_of HT_.out (by kernel_rfl)) (fun _ _ _ h => h) (Or.inl ⟨by rfl, ?_⟩) ?_ ?_; rotate_left; ·(intro w'; go_simp; with_reducible rfl)
                       rotate_left; ·(simp only [Act.put, sA_, s0_, s1_, i64_w, i32_w]; rfl)
                       refine pure_ (i := 37) (N := some 238) (v := ?_) (a' := ?_) q5_126 rfl rfl (any_of HT_.out (by kernel_rfl)) (fun _ _ _ h => h) (Or.inl ⟨by rfl, ?_⟩) ?_ ?_; rotate_left; ·(intro w'; go_simp; with_reducible rfl)
                       rotate_left; ·(simp only [Act.put, sA_, s0_, s1_, i64_w, i32_w]; rfl)
                       refine pure_ (i := 38) (N := some 239) (v := ?_) (a' := ?_) q5_127 rfl rfl (any_of HT_.out (by kernel_rfl)) (fun _ _ _ h => h) (Or.inl ⟨by rfl, ?_⟩) ?_ ?_; rotate_left; ·(intro w'; go_simp; with_reducible rfl)
                       rotate_left; ·(simp only [Act.put, sA_, s0_, s1_, i64_w, i32_w]; rfl)
                       refine done_ (done_of HT_.out (by kernel_rfl)) ?_
                       try go_wp2
                       go_roundg k3
                       case measure => have := HK1.out; have := HK2.out; have := HK3.out; omega
                       case rel => exact ⟨(wrap64 (x17_3 + 1)), (by first | rfl | (simp; done) | (simp [*]; done)), H', ⟨by have := HK1.out; have := HK2.out; have := HK3.out; omega⟩, ⟨by (with_reducible repeat (first | apply Kd.R_alloc | apply Kd.R_drewN | apply Kd.R_drew)); exact HO_7.out⟩, ⟨by repeat (first | (with_reducible first | exact HB.out | apply wA | apply wN | apply wD) | exact HB.out)⟩⟩
                    ·replace c84 := Bool.eq_false_iff.mpr c84
                     subst c84
                     have H1 : (some false) = some r := by rw [if_neg (show ¬ (false = true) by decide)] at H; exact H
                     clear H
                     have H := H1
                     clear H1
                     exact absurd ((Option.some.inj H).trans hrt.out) (by decide)
                   ·rw [if_neg c82] at H
                    exact absurd H (by simp)
                  ·rw [if_neg c81] at H
                   exact absurd H (by simp)
                 ·rw [if_neg c80] at H
                  exact absurd H (by simp)
                ·rw [if_neg c79] at H
                 exact absurd H (by simp)
               ·rw [if_neg c78] at H
                exact absurd H (by simp)
              ·rw [if_neg c77] at H
               have c77b0 : decide (x17_3 < (t391.length : Int)) = false := decide_eq_false c77
               clear c77
               replace H := Option.bind_eq_some_iff.mp H
               obtain ⟨t434, A910, H⟩ := H
               replace H : (some t434) = some r := H
               have A91 := ak A910
               clear A910
               obtain rfl := Option.some.inj H
               go_wp2_with (first | ((with_reducible refine gate_callee (f := 11) rfl ?_); refine goesL_ (some 240) rfl rfl Try.func11 (by kernel_rfl) rfl #[] rfl (by (try simp only [List.map_toArray, List.map_cons, List.map_nil]); first | done | rfl | (simp only [List.length_drop, List.length_take]; rfl)) ?_; (with_reducible refine (mummerlaw11_awake.calls k3  t434 _ hrt A91.out).mono ?_); rintro e w92 ⟨rfl, hb⟩; refine ⟨_, rfl, ?_⟩; have n0_ := ak (Kd.R_below (by (with_reducible repeat (first | apply Kd.R_alloc | apply Kd.R_drewN | apply Kd.R_drew)); exact HO_7.out) hb); have n1_ := ak (below_step (by repeat (first | (with_reducible first | exact HB.out | apply wA | apply wN | apply wD) | exact HB.out)) hb); clear HO_7; clear HB; have HO_7 := n0_; have HB := n1_; clear n0_ n1_; (try clear hb); (try clear hb2); (try clear hk); (try clear hi)))
               go_ret
               exact ⟨by first | rfl | (simp [errW_none, errW_some] <;> rfl) | (simp [*, errW_none, errW_some] <;> rfl), by repeat (first | (with_reducible first | exact HB.out | apply wA | apply wN | apply wD) | exact HB.out)⟩
           ·replace c76 := Bool.eq_false_iff.mpr c76
            subst c76
            have H1 : (some false) = some r := by rw [if_neg (show ¬ (false = true) by decide)] at H; exact H
            clear H
            have H := H1
            clear H1
            exact absurd ((Option.some.inj H).trans hrt.out) (by decide)
          ·rw [if_neg c75] at H
           have c75b0 : (t396 == 0) = false := beq_eq_false_iff_ne.mpr c75
           have c75b1 : (t396 != 0) = true := bne_iff_ne.mpr c75
           by_cases c93 : t396 = 11
           ·rw [if_pos c93] at H
            have c93b0 : (t396 == 11) = true := beq_iff_eq.mpr c93
            have c93b1 : (t396 != 11) = false := bne_eq_false_iff_eq.mpr c93
            clear c93
            by_cases c94 : x12_1 = true
            ·subst c94
             have H1 : (if t395 = 0 then ((mummerlaw11_awake.f k2).bind fun t435 => (some t435)) else (some false)) = some r := by rw [if_pos rfl] at H; exact H
             clear H
             have H := H1
             clear H1
             by_cases c95 : t395 = 0
             ·rw [if_pos c95] at H
              have c95b0 : (t395 == 0) = true := beq_iff_eq.mpr c95
              have c95b1 : (t395 != 0) = false := bne_eq_false_iff_eq.mpr c95
              clear c95
              replace H := Option.bind_eq_some_iff.mp H
              obtain ⟨t435, A960, H⟩ := H
              replace H : (some t435) = some r := H
              have A96 := ak A960
              clear A960
              obtain rfl := Option.some.inj H
              go_wp2_with (first | (go_at_call 11; (with_reducible refine (mummerlaw11_awake.calls k2  t435 _ hrt A96.out).mono ?_); rintro e w97 ⟨rfl, hb⟩; have n0_ := ak (Kd.R_below (by (with_reducible repeat (first | apply Kd.R_alloc | apply Kd.R_drewN | apply Kd.R_drew)); exact HO_7.out) hb); have n1_ := ak (below_step (by repeat (first | (with_reducible first | exact HB.out | apply wA | apply wN | apply wD) | exact HB.out)) hb); clear HO_7; clear HB; have HO_7 := n0_; have HB := n1_; clear n0_ n1_; (try clear hb); (try clear hb2); (try clear hk); (try clear hi)))
              go_ret
              exact ⟨by first | rfl | (simp [errW_none, errW_some] <;> rfl) | (simp [*, errW_none, errW_some] <;> rfl), by repeat (first | (with_reducible first | exact HB.out | apply wA | apply wN | apply wD) | exact HB.out)⟩
             ·rw [if_neg c95] at H
              have c95b0 : (t395 == 0) = false := beq_eq_false_iff_ne.mpr c95
              have c95b1 : (t395 != 0) = true := bne_iff_ne.mpr c95
              exact absurd ((Option.some.inj H).trans hrt.out) (by decide)
            ·replace c94 := Bool.eq_false_iff.mpr c94
             subst c94
             have H1 : (some false) = some r := by rw [if_neg (show ¬ (false = true) by decide)] at H; exact H
             clear H
             have H := H1
             clear H1
             exact absurd ((Option.some.inj H).trans hrt.out) (by decide)
           ·rw [if_neg c93] at H
            have c93b0 : (t396 == 11) = false := beq_eq_false_iff_ne.mpr c93
            have c93b1 : (t396 != 11) = true := bne_iff_ne.mpr c93
            by_cases c98 : t396 = 10
            ·rw [if_pos c98] at H
             have c98b0 : (t396 == 10) = true := beq_iff_eq.mpr c98
             have c98b1 : (t396 != 10) = false := bne_eq_false_iff_eq.mpr c98
             clear c98
             by_cases c99 : (t391.length : Int) = 0
             ·rw [if_pos c99] at H
              have c99b0 : ((t391.length : Int) == 0) = true := beq_iff_eq.mpr c99
              have c99b1 : ((t391.length : Int) != 0) = false := bne_eq_false_iff_eq.mpr c99
              clear c99
              by_cases c100 : t395 = 0
              ·rw [if_pos c100] at H
               have c100b0 : (t395 == 0) = true := beq_iff_eq.mpr c100
               have c100b1 : (t395 != 0) = false := bne_eq_false_iff_eq.mpr c100
               clear c100
               replace H := Option.bind_eq_some_iff.mp H
               obtain ⟨t436, A1010, H⟩ := H
               replace H : (some t436) = some r := H
               have A101 := ak A1010
               clear A1010
               obtain rfl := Option.some.inj H
               go_wp2_with (first | (go_at_call 11; (with_reducible refine (mummerlaw11_awake.calls k2  t436 _ hrt A101.out).mono ?_); rintro e w102 ⟨rfl, hb⟩; have n0_ := ak (Kd.R_below (by (with_reducible repeat (first | apply Kd.R_alloc | apply Kd.R_drewN | apply Kd.R_drew)); exact HO_7.out) hb); have n1_ := ak (below_step (by repeat (first | (with_reducible first | exact HB.out | apply wA | apply wN | apply wD) | exact HB.out)) hb); clear HO_7; clear HB; have HO_7 := n0_; have HB := n1_; clear n0_ n1_; (try clear hb); (try clear hb2); (try clear hk); (try clear hi)))
               go_ret
               exact ⟨by first | rfl | (simp [errW_none, errW_some] <;> rfl) | (simp [*, errW_none, errW_some] <;> rfl), by repeat (first | (with_reducible first | exact HB.out | apply wA | apply wN | apply wD) | exact HB.out)⟩
              ·rw [if_neg c100] at H
               have c100b0 : (t395 == 0) = false := beq_eq_false_iff_ne.mpr c100
               have c100b1 : (t395 != 0) = true := bne_iff_ne.mpr c100
               exact absurd ((Option.some.inj H).trans hrt.out) (by decide)
             ·rw [if_neg c99] at H
              have c99b0 : ((t391.length : Int) == 0) = false := beq_eq_false_iff_ne.mpr c99
              have c99b1 : ((t391.length : Int) != 0) = true := bne_iff_ne.mpr c99
              have c99b2 : ¬ (t391 = []) := fun h_ => c99 (by rw [h_]; rfl)
              exact absurd ((Option.some.inj H).trans hrt.out) (by decide)
            ·rw [if_neg c98] at H
             have c98b0 : (t396 == 10) = false := beq_eq_false_iff_ne.mpr c98
             have c98b1 : (t396 != 10) = true := bne_iff_ne.mpr c98
             exact absurd ((Option.some.inj H).trans hrt.out) (by decide)
         ·rw [if_neg c74] at H
          have c74b0 : (x15_2 == (t391.length : Int)) = false := beq_eq_false_iff_ne.mpr c74
          have c74b1 : (x15_2 != (t391.length : Int)) = true := bne_iff_ne.mpr c74
          exact absurd ((Option.some.inj H).trans hrt.out) (by decide)
  ·rw [if_neg c13] at H
   have c13b0 : (t392 == 0) = false := beq_eq_false_iff_ne.mpr c13
   have c13b1 : (t392 != 0) = true := bne_iff_ne.mpr c13
   by_cases c103 : t396 = t392
   ·rw [if_pos c103] at H
    have c103b0 : (t396 == t392) = true := beq_iff_eq.mpr c103
    have c103b1 : (t396 != t392) = false := bne_eq_false_iff_eq.mpr c103
    clear c103
    replace H := Option.bind_eq_some_iff.mp H
    obtain ⟨t397, A1040, H⟩ := H
    replace H : (some t397) = some r := H
    have A104 := ak A1040
    clear A1040
    obtain rfl := Option.some.inj H
    go_enter Try.func5, Try.ntmps5
    go_wp2_with (first | ((with_reducible refine gate_dst (N := 21) rfl ?_); (try (refine gate_guard (by rfl) ?_; dsimp only)); refine Kd.R_lit Kd.string _ 9 ?hg (N := 21) ?hd (xs := ([a1, a2] : List ByteArray)) (inner := [.string a1, .string a2]) (ok := fun _ => True) (okp := fun _ => True) ?hr ?hp (fun _ hk => hk) trivial (Below.refl _ _) (Nat.le_refl _) (by simp) ?_; (case hd => rfl); (case hg => rfl); (case hr => first | (go_simp; done) | (go_simp; rfl)); (case hp => exact (Reps.one (show Kd.M Kd.string _ _ _ a1 [.string a1] from rfl) (Reps.one (show Kd.M Kd.string _ _ _ a2 [.string a2] from rfl) (Reps.none _ _)))); intro v387 w105 ho106 hb hg_ hnew_; clear hg_ hnew_; (first | rw [← Ny386.out] at ho106 | (simp only [Int.reduceToNat] at ho106; rw [← Ny386.out] at ho106)); have n0_ := ak (Kd.R_lower ho106 (below_size (by repeat (first | (with_reducible first | exact HB.out | apply wA | apply wN | apply wD) | exact HB.out)))); have n1_ := ak (below_step (by repeat (first | (with_reducible first | exact HB.out | apply wA | apply wN | apply wD) | exact HB.out)) hb); clear HB; have HO388 := n0_; have HB := n1_; clear n0_ n1_; clear hb ho106; obtain ⟨Ao107, co107, eo107⟩ := Kd.R_slice HO388.out; subst eo107) | ((with_reducible refine gate_callee (f := 10) rfl ?_); refine goesL_ (some 22) rfl rfl Try.func10 (by kernel_rfl) rfl #[.slice A0 l0.length c0, .slice Ao107 y386.length co107] rfl (by (try simp only [List.map_toArray, List.map_cons, List.map_nil]); first | done | rfl | (simp only [List.length_drop, List.length_take]; rfl)) ?_; (with_reducible refine (mummerlaw11_far.calls k _ _ l0 _ _ y386 false _ ?side1 ?side2 ?side3 ?side4 A4.out).mono ?_); (case side1 => repeat (first | exact (Kd.C_below HR0.out HB.out) | (with_reducible refine Kd.C_alloc ?_ _) | (with_reducible refine Kd.C_drewN ?_ _) | (with_reducible refine Kd.C_drew ?_))); (case side2 => exact HC0.out); (case side3 => repeat (first | exact (Kd.R_reads' HO388.out).2.2 | (with_reducible refine Kd.C_alloc ?_ _) | (with_reducible refine Kd.C_drewN ?_ _) | (with_reducible refine Kd.C_drew ?_))); (case side4 => exact (Kd.R_reads' HO388.out).2.1); rintro e w' ⟨rfl, ⟨nd, rfl⟩⟩; refine ⟨_, rfl, ?_⟩) | ((with_reducible refine gate_callee (f := 17) rfl ?_); refine goesL_ (some 28) rfl rfl Try.func17 (by kernel_rfl) rfl #[.slice A0 l0.length c0, .string a1, .string a2] rfl (by (try simp only [List.map_toArray, List.map_cons, List.map_nil]); first | done | rfl | (simp only [List.length_drop, List.length_take]; rfl)) ?_; (with_reducible refine (binds_Candidates.calls k _ _ l0 a1 a2 t391 t392 _ ?side1 ?side2 A11.out).mono ?_); (case side1 => repeat (first | exact (Kd.C_below HR0.out (by repeat (first | (with_reducible first | exact HB.out | apply wA | apply wN | apply wD) | exact HB.out))) | (with_reducible refine Kd.C_alloc ?_ _) | (with_reducible refine Kd.C_drewN ?_ _) | (with_reducible refine Kd.C_drew ?_))); (case side2 => exact HC0.out); rintro e w108 ⟨v393, rfl, ho0, hb⟩; refine ⟨_, rfl, ?_⟩; have n0_ := ak (Kd.R_below (by (with_reducible repeat (first | apply Kd.R_alloc | apply Kd.R_drewN | apply Kd.R_drew)); exact HO388.out) hb); have n1_ := ak (Kd.R_lower ho0 (below_size (by repeat (first | (with_reducible first | exact HB.out | apply wA | apply wN | apply wD) | exact HB.out)))); have n2_ := ak (below_step (by repeat (first | (with_reducible first | exact HB.out | apply wA | apply wN | apply wD) | exact HB.out)) hb); clear HO388; clear HB; have HO388 := n0_; have HO394 := n1_; have HB := n2_; clear n0_ n1_ n2_; (try clear hb); (try clear hb2); (try clear hk); (try clear hi); (try clear ho0)) | ((with_reducible refine gate_callee (f := 19) rfl ?_); refine goesL_ (some 35) rfl rfl Try.func19 (by kernel_rfl) rfl #[.slice A0 l0.length c0, .string a1, .string a2] rfl (by (try simp only [List.map_toArray, List.map_cons, List.map_nil]); first | done | rfl | (simp only [List.length_drop, List.length_take]; rfl)) ?_; (with_reducible refine (binds_Resolve.calls k _ _ l0 a1 a2 t395 t396 _ ?side1 ?side2 A12.out).mono ?_); (case side1 => repeat (first | exact (Kd.C_below HR0.out HB.out) | (with_reducible refine Kd.C_alloc ?_ _) | (with_reducible refine Kd.C_drewN ?_ _) | (with_reducible refine Kd.C_drew ?_))); (case side2 => exact HC0.out); rintro e w109 ⟨rfl, hb⟩; refine ⟨_, rfl, ?_⟩; have n0_ := ak (Kd.R_below (by (with_reducible repeat (first | apply Kd.R_alloc | apply Kd.R_drewN | apply Kd.R_drew)); exact HO388.out) hb); have n1_ := ak (Kd.R_below (by (with_reducible repeat (first | apply Kd.R_alloc | apply Kd.R_drewN | apply Kd.R_drew)); exact HO394.out) hb); have n2_ := ak (below_step (by repeat (first | (with_reducible first | exact HB.out | apply wA | apply wN | apply wD) | exact HB.out)) hb); clear HO388; clear HO394; clear HB; have HO388 := n0_; have HO394 := n1_; have HB := n2_; clear n0_ n1_ n2_; (try clear hb); (try clear hb2); (try clear hk); (try clear hi)) | (go_at_call 11; (with_reducible refine (mummerlaw11_awake.calls k  t397 _ hrt A104.out).mono ?_); rintro e w110 ⟨rfl, hb⟩; have n0_ := ak (Kd.R_below (by (with_reducible repeat (first | apply Kd.R_alloc | apply Kd.R_drewN | apply Kd.R_drew)); exact HO388.out) hb); have n1_ := ak (Kd.R_below (by (with_reducible repeat (first | apply Kd.R_alloc | apply Kd.R_drewN | apply Kd.R_drew)); exact HO394.out) hb); have n2_ := ak (below_step (by repeat (first | (with_reducible first | exact HB.out | apply wA | apply wN | apply wD) | exact HB.out)) hb); clear HO388; clear HO394; clear HB; have HO388 := n0_; have HO394 := n1_; have HB := n2_; clear n0_ n1_ n2_; (try clear hb); (try clear hb2); (try clear hk); (try clear hi)))
    go_ret
    exact ⟨by first | rfl | (simp [errW_none, errW_some] <;> rfl) | (simp [*, errW_none, errW_some] <;> rfl), by repeat (first | (with_reducible first | exact HB.out | apply wA | apply wN | apply wD) | exact HB.out)⟩
   ·rw [if_neg c103] at H
    have c103b0 : (t396 == t392) = false := beq_eq_false_iff_ne.mpr c103
    have c103b1 : (t396 != t392) = true := bne_iff_ne.mpr c103
    exact absurd ((Option.some.inj H).trans hrt.out) (by decide)
end Go.Proofs.Ytpjcahjpjeiicaa.P
