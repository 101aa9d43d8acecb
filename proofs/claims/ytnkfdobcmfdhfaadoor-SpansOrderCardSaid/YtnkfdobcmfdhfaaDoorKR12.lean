import Derived.Test.YtnkfdobcmfdhfaaDoorKR11

