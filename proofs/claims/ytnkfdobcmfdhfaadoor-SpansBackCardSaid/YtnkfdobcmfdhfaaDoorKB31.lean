import Derived.Test.YtnkfdobcmfdhfaaDoorKB26

